-- Written by a program (print.py's text, with contracts of this session's own put in). Not trusted: Lean checks it.
import Derived.Test.YtaflpmpffppfaaaDoorX0
import Derived.Test.YtaflpmpffppfaaaDoorX11
namespace Go.Proofs.YtaflpmpffppfaaaDoor.X
open Go.RowKit Go.Proofs.YtaflpmpffppfaaaDoorW.PrintWords Go.Proofs.YtaflpmpffppfaaaDoorW.PrintLast Go.Proofs.YtaflpmpffppfaaaDoorW.PrintMore
attribute [local go_sem] max2_int min2_int max_two min_two max_three min_three max_four min_four   -- for this text's walks alone
set_option linter.unusedVariables false
set_option linter.unusedSimpArgs false

/-! ### bulletinref17_Line: function 20, a contract written by hand -/
-- IMPORT Derived.Test.YtaflpmpffppfaaaDoorQpP
def bulletinref17_Line.f (a0 : ByteArray) : Option ByteArray := if a0.size ≤ 1000000 then some (Aid.S (QpP.lineGo (Aid.L a0) 0)) else none
theorem bulletinref17_Line.it_ : ∀ n : Nat, n < 256 → bulletinref17_itself.f (n : Int) = some (QpP.itself (UInt8.ofNat n)) := by decide +kernel
theorem bulletinref17_Line.it (c : UInt8) : bulletinref17_itself.f (c.toNat : Int) = some (QpP.itself c) := by
  have := bulletinref17_Line.it_ c.toNat c.toNat_lt
  rwa [UInt8.ofNat_toNat] at this
theorem bulletinref17_Line.bl_ : ∀ n : Nat, n < 256 → bulletinref17_blank.f (n : Int) = some (QpP.blank (UInt8.ofNat n)) := by decide +kernel
theorem bulletinref17_Line.bl (c : UInt8) : bulletinref17_blank.f (c.toNat : Int) = some (QpP.blank c) := by
  have := bulletinref17_Line.bl_ c.toNat c.toNat_lt
  rwa [UInt8.ofNat_toNat] at this
theorem bulletinref17_Line.sg_ : ∀ n : Nat, n < 256 → ((⟨#[61]⟩ : ByteArray) ++ (⟨#[48, 49, 50, 51, 52, 53, 54, 55, 56, 57, 65, 66, 67, 68, 69, 70]⟩ : ByteArray).extract (n / 16) (n / 16 + 1)) ++ (⟨#[48, 49, 50, 51, 52, 53, 54, 55, 56, 57, 65, 66, 67, 68, 69, 70]⟩ : ByteArray).extract (n % 16) (n % 16 + 1) = Aid.S (QpP.sgn (UInt8.ofNat n)) := by decide +kernel
/-- what is left to be written -/
theorem bulletinref17_Line.step (out : List UInt8) (l : List UInt8) (k n : Nat) (c : UInt8) (hk : k < l.length) (hc : l[k] = c) (w : List UInt8) (hw : QpP.wr c (decide (k + 1 = l.length)) = w) (r : List UInt8) (h : out ++ QpP.lineGo (l.drop k) n = r) :
    (if 75 < n + w.length then out ++ [61, 13, 10] ++ w ++ QpP.lineGo (l.drop (k + 1)) w.length else out ++ w ++ QpP.lineGo (l.drop (k + 1)) (n + w.length)) = r := by
  rw [List.drop_eq_getElem_cons hk, hc, QpP.lineGo] at h
  have e : (l.drop (k + 1)).isEmpty = decide (k + 1 = l.length) := by
    rw [Bool.eq_iff_iff, List.isEmpty_iff, List.drop_eq_nil_iff, decide_eq_true_eq]
    omega
  rw [e, hw] at h
  rw [← h]
  split
  · simp [List.append_assoc]
  · simp [List.append_assoc]
theorem bulletinref17_Line.ret_str {a b : ByteArray} (h : a = b) : Ending.returned (.string a) = .returned (.string b) := by rw [h]
theorem bulletinref17_Line.S1 (s : ByteArray) (k : Nat) (h : k < (Aid.L s).length) : s.extract k (k + 1) = Aid.S [(Aid.L s)[k]] := by
  apply Aid.L_inj
  rw [Aid.L_ext, Aid.L_S]
  have h' := h
  rw [List.take_add_one, List.drop_append_of_le_length (by rw [List.length_take]; omega), List.drop_eq_nil_of_le (by rw [List.length_take]; omega), List.getElem?_eq_getElem h']
  rfl
set_option maxHeartbeats 1000000 in
set_option maxRecDepth 100000 in
theorem bulletinref17_Line.calls (a0 : ByteArray) (r : ByteArray) (w : World) (h : bulletinref17_Line.f a0 = some r) :
    Calls Tryd.prog 20 #[.string a0] w fun e w' => e = .returned (.string r) ∧ Below w.heap.size w w' := by
  unfold bulletinref17_Line.f at h
  by_cases hsz : a0.size ≤ 1000000
  case neg => rw [if_neg hsz] at h; cases h
  rw [if_pos hsz] at h
  obtain rfl := Option.some.inj h
  clear h
  obtain ⟨R, hR⟩ : ∃ R, QpP.lineGo (Aid.L a0) 0 = R := ⟨_, rfl⟩
  rw [hR]
  have HR := Lib.hid hR
  clear hR
  go_enter Tryd.func20, Tryd.ntmps20
  go_wp2
  go_loopw [3, 4, 5] (fun o sn i wr => ∃ (k n : Nat) (out : List UInt8), k ≤ a0.size ∧ n ≤ 75 ∧ out.length ≤ 6 * k ∧ o = .string (Aid.S out) ∧ sn = .int .i64 n ∧ i = .int .i64 k ∧ Hid (out ++ QpP.lineGo ((Aid.L a0).drop k) n = R) ∧ Below w.heap.size w wr) (fun _ _ i _ => a0.size - (intOf i).toNat)
  case atStart => exact ⟨0, 0, [], by omega, by omega, by simp, rfl, rfl, rfl, Lib.hid (by rw [List.drop_zero]; exact HR.out), Below.refl _ _⟩
  case round =>
    obtain ⟨k, n, out, hk, hn, ho, rfl, rfl, rfl, HO, hB⟩ := hrel
    by_cases hlt : k < a0.size
    · have hlt' : k < (Aid.L a0).length := by rw [← Aid.sz]; exact hlt
      obtain ⟨c, hc⟩ : ∃ c, (Aid.L a0)[k] = c := ⟨_, rfl⟩
      have hx : ∀ h : k < a0.size, ((a0[k]'h).toNat : Int) = (c.toNat : Int) := fun h => (bt_at a0 k h).trans (by rw [Aid.btn a0 k hlt', hc])
      have hstep := bulletinref17_Line.step out (Aid.L a0) k n c hlt' hc _ rfl R HO.out
      rw [← Aid.sz] at hstep
      have HS := Lib.hid hstep
      have HX := Lib.hid (bulletinref17_Line.S1 a0 k hlt')
      rw [hc] at HX
      have hs16 := bulletinref17_Line.sg_ c.toNat c.toNat_lt
      rw [UInt8.ofNat_toNat] at hs16
      have HG := Lib.hid hs16
      have hi := bulletinref17_Line.it c
      have hb := bulletinref17_Line.bl c
      have hwl := QpP.wr_len c (decide (k + 1 = a0.size))
      have hc256 := c.toNat_lt
      have hk1 : (k : Int) + 1 ≤ (a0.size : Int) := by omega
      have hk0 : (k : Int) ≤ (k : Int) + 1 := by omega
      clear hstep HO hs16 HR hc
      have hoz : (Aid.S out).size = out.length := by rw [Aid.sz, Aid.L_S]
      have hq1 : (Aid.S out).size + 3 ≤ 9223372036854775807 := by omega
      have hq2 : (Aid.S out ++ (⟨#[61, 13, 10]⟩ : ByteArray)).size ≤ 7000000 := by
        rw [ByteArray.size_append]
        show (Aid.S out).size + 3 ≤ _
        omega
      obtain ⟨o2, ho2⟩ : ∃ o2, Aid.S out ++ (⟨#[61, 13, 10]⟩ : ByteArray) = o2 := ⟨_, rfl⟩
      have HO2 := Lib.hid ho2
      rw [ho2] at hq2
      cases hit : QpP.itself c with
      | true =>
        have HI := Aside0.mk (hi.trans (congrArg some hit))
        have hw1 : QpP.wr c (decide (k + 1 = a0.size)) = [c] := by simp [QpP.wr, hit]
        rw [hw1] at HS hwl
        clear hi hb hit hw1 hwl HG
        obtain ⟨ws, hws⟩ : ∃ ws, a0.extract k (k + 1) = ws := ⟨_, rfl⟩
        have HW : Hid (ws = Aid.S [c]) := Lib.hid (hws.symm.trans HX.out)
        have hwz : ws.size = 1 := by rw [HW.out]; rfl
        have hq3 : o2.size + 1 ≤ 9223372036854775807 := by omega
        have hq4 : (Aid.S out).size + 1 ≤ 9223372036854775807 := by omega
        clear hoz HX
        by_cases h75 : n = 75
        · subst h75
          clear hq4
          go_wp2_with fail
          ((with_reducible refine (bulletinref17_itself.calls _ true _ HI.out).mono ?_))
          rintro e w' ⟨rfl, ⟨nd, rfl⟩⟩
          go_wp2_with fail
          go_roundw
          case rel => exact ⟨k + 1, 1, out ++ [61, 13, 10] ++ [c], by omega, by omega, by simp; omega, by rw [HW.out, ← HO2.out, ← Aid.S_app, ← Aid.S_app]; rfl, by first | rfl | simp, by go_num, Lib.hid (by have := HS.out; rw [if_pos (by simp)] at this; exact this), pw_below_drewN hB _⟩
          case measure => simp [intOf]; omega
        · have hn2 : (n : Int) + 1 ≤ 75 := by omega
          clear hq3 hq2 hq1
          go_wp2_with fail
          ((with_reducible refine (bulletinref17_itself.calls _ true _ HI.out).mono ?_))
          rintro e w' ⟨rfl, ⟨nd, rfl⟩⟩
          go_wp2_with fail
          go_roundw
          case rel => exact ⟨k + 1, n + 1, out ++ [c], by omega, by omega, by simp; omega, by rw [HW.out, ← Aid.S_app], by first | rfl | simp, by go_num, Lib.hid (by have := HS.out; rw [if_neg (by simp; omega)] at this; exact this), pw_below_drewN hB _⟩
          case measure => simp [intOf]; omega
      | false =>
        have HI := Aside0.mk (hi.trans (congrArg some hit))
        have a1 : 0 ≤ (c.toNat : Int) / 16 := by omega
        have a2 : (c.toNat : Int) / 16 ≤ (c.toNat : Int) / 16 + 1 := by omega
        have a3 : (c.toNat : Int) / 16 + 1 ≤ 16 := by omega
        have a4 : 0 ≤ (c.toNat : Int) % 16 := by omega
        have a5 : (c.toNat : Int) % 16 ≤ (c.toNat : Int) % 16 + 1 := by omega
        have a6 : (c.toNat : Int) % 16 + 1 ≤ 16 := by omega
        cases hbk : QpP.blank c with
        | true =>
          have HB := Aside0.mk (hb.trans (congrArg some hbk))
          by_cases hlast : k + 1 = a0.size
          · have hl2 : decide ((k : Int) + 1 = (a0.size : Int)) = true := decide_eq_true (by omega)
            have hl3 : ((k : Int) + 1 == (a0.size : Int)) = true := beq_iff_eq.mpr (by omega)
            have hw1 : QpP.wr c (decide (k + 1 = a0.size)) = QpP.sgn c := by simp [QpP.wr, hit, hbk, hlast]
            rw [hw1] at HS
            have hsl : (QpP.sgn c).length = 3 := rfl
            obtain ⟨ws, hws⟩ : ∃ ws, Aid.S (QpP.sgn c) = ws := ⟨_, rfl⟩
            have HW : Hid (ws = Aid.S (QpP.sgn c)) := Lib.hid hws.symm
            have hwz : ws.size = 3 := by rw [← hws]; rfl
            have HWS := Lib.hid hws
            have hq3 : o2.size + 3 ≤ 9223372036854775807 := by omega
            have hq4 : (Aid.S out).size + 3 ≤ 9223372036854775807 := by omega
            clear hi hb hw1 hws hoz hsl hit hbk
            go_wp2_with fail
            ((with_reducible refine (bulletinref17_itself.calls _ false _ HI.out).mono ?_))
            rintro e w' ⟨rfl, ⟨nd, rfl⟩⟩
            go_wp2_with fail
            ((with_reducible refine (bulletinref17_blank.calls _ true _ HB.out).mono ?_))
            rintro e w' ⟨rfl, ⟨nd2, rfl⟩⟩
            go_wp2_with fail
            go_quiet (fail)
            simp only [HG.out, HWS.out]
            have hB2 := pw_below_drewN hB (nd + nd2 + nq)
            clear a1 a2 a3 a4 a5 a6 hl2 hl3
            by_cases h75 : 72 < n
            · have hn2 : 75 < (n : Int) + 3 := by omega
              clear hq4
              go_wp2_with fail
              go_roundw
              case rel => exact ⟨k + 1, 3, out ++ [61, 13, 10] ++ QpP.sgn c, by omega, by omega, by simp [QpP.sgn]; omega, by rw [HW.out, ← HO2.out, ← Aid.S_app, ← Aid.S_app]; rfl, by first | rfl | simp, by go_num, Lib.hid (by have := HS.out; rw [if_pos (by simp [QpP.sgn]; omega)] at this; exact this), hB2⟩
              case measure => simp [intOf]; omega
            · have hn2 : (n : Int) + 3 ≤ 75 := by omega
              clear hq3 hq2 hq1
              go_wp2_with fail
              go_roundw
              case rel => exact ⟨k + 1, n + 3, out ++ QpP.sgn c, by omega, by omega, by simp [QpP.sgn]; omega, by rw [HW.out, ← Aid.S_app], by first | rfl | simp, by go_num, Lib.hid (by have := HS.out; rw [if_neg (by simp [QpP.sgn]; omega)] at this; exact this), hB2⟩
              case measure => simp [intOf]; omega
          · have hl2 : decide ((k : Int) + 1 = (a0.size : Int)) = false := decide_eq_false (by omega)
            have hl3 : ((k : Int) + 1 == (a0.size : Int)) = false := beq_eq_false_iff_ne.mpr (by omega)
            have hw1 : QpP.wr c (decide (k + 1 = a0.size)) = [c] := by simp [QpP.wr, hbk, hlast]
            rw [hw1] at HS
            have hext := HX.out
            obtain ⟨ws, hws⟩ : ∃ ws, a0.extract k (k + 1) = ws := ⟨_, rfl⟩
            have HW : Hid (ws = Aid.S [c]) := Lib.hid (hws.symm.trans hext)
            have hwz : ws.size = 1 := by rw [HW.out]; rfl
            have hq3 : o2.size + 1 ≤ 9223372036854775807 := by omega
            have hq4 : (Aid.S out).size + 1 ≤ 9223372036854775807 := by omega
            clear hi hb hw1 hoz hext HX hit hbk a1 a2 a3 a4 a5 a6 HG
            by_cases h75 : n = 75
            · subst h75
              clear hq4
              go_wp2_with fail
              ((with_reducible refine (bulletinref17_itself.calls _ false _ HI.out).mono ?_))
              rintro e w' ⟨rfl, ⟨nd, rfl⟩⟩
              go_wp2_with fail
              ((with_reducible refine (bulletinref17_blank.calls _ true _ HB.out).mono ?_))
              rintro e w' ⟨rfl, ⟨nd2, rfl⟩⟩
              go_wp2_with fail
              go_roundw
              case rel => exact ⟨k + 1, 1, out ++ [61, 13, 10] ++ [c], by omega, by omega, by simp; omega, by rw [HW.out, ← HO2.out, ← Aid.S_app, ← Aid.S_app]; rfl, by first | rfl | simp, by go_num, Lib.hid (by have := HS.out; rw [if_pos (by simp)] at this; exact this), pw_below_drewN hB _⟩
              case measure => simp [intOf]; omega
            · have hn2 : (n : Int) + 1 ≤ 75 := by omega
              clear hq3 hq2 hq1
              go_wp2_with fail
              ((with_reducible refine (bulletinref17_itself.calls _ false _ HI.out).mono ?_))
              rintro e w' ⟨rfl, ⟨nd, rfl⟩⟩
              go_wp2_with fail
              ((with_reducible refine (bulletinref17_blank.calls _ true _ HB.out).mono ?_))
              rintro e w' ⟨rfl, ⟨nd2, rfl⟩⟩
              go_wp2_with fail
              go_roundw
              case rel => exact ⟨k + 1, n + 1, out ++ [c], by omega, by omega, by simp; omega, by rw [HW.out, ← Aid.S_app], by first | rfl | simp, by go_num, Lib.hid (by have := HS.out; rw [if_neg (by simp; omega)] at this; exact this), pw_below_drewN hB _⟩
              case measure => simp [intOf]; omega
        | false =>
          have HB := Aside0.mk (hb.trans (congrArg some hbk))
          have hl2 := True.intro
          have hl3 := True.intro
          have hw1 : QpP.wr c (decide (k + 1 = a0.size)) = QpP.sgn c := by simp [QpP.wr, hit, hbk]
          rw [hw1] at HS
          have hsl : (QpP.sgn c).length = 3 := rfl
          obtain ⟨ws, hws⟩ : ∃ ws, Aid.S (QpP.sgn c) = ws := ⟨_, rfl⟩
          have HW : Hid (ws = Aid.S (QpP.sgn c)) := Lib.hid hws.symm
          have hwz : ws.size = 3 := by rw [← hws]; rfl
          have HWS := Lib.hid hws
          have hq3 : o2.size + 3 ≤ 9223372036854775807 := by omega
          have hq4 : (Aid.S out).size + 3 ≤ 9223372036854775807 := by omega
          clear hi hb hw1 hws hoz hsl hit hbk
          go_wp2_with fail
          ((with_reducible refine (bulletinref17_itself.calls _ false _ HI.out).mono ?_))
          rintro e w' ⟨rfl, ⟨nd, rfl⟩⟩
          go_wp2_with fail
          ((with_reducible refine (bulletinref17_blank.calls _ false _ HB.out).mono ?_))
          rintro e w' ⟨rfl, ⟨nd2, rfl⟩⟩
          go_wp2_with fail
          go_quiet (fail)
          simp only [HG.out, HWS.out]
          have hB2 := pw_below_drewN hB (nd + nd2 + nq)
          clear a1 a2 a3 a4 a5 a6 hl2 hl3
          by_cases h75 : 72 < n
          · have hn2 : 75 < (n : Int) + 3 := by omega
            clear hq4
            go_wp2_with fail
            go_roundw
            case rel => exact ⟨k + 1, 3, out ++ [61, 13, 10] ++ QpP.sgn c, by omega, by omega, by simp [QpP.sgn]; omega, by rw [HW.out, ← HO2.out, ← Aid.S_app, ← Aid.S_app]; rfl, by first | rfl | simp, by go_num, Lib.hid (by have := HS.out; rw [if_pos (by simp [QpP.sgn]; omega)] at this; exact this), hB2⟩
            case measure => simp [intOf]; omega
          · have hn2 : (n : Int) + 3 ≤ 75 := by omega
            clear hq3 hq2 hq1
            go_wp2_with fail
            go_roundw
            case rel => exact ⟨k + 1, n + 3, out ++ QpP.sgn c, by omega, by omega, by simp [QpP.sgn]; omega, by rw [HW.out, ← Aid.S_app], by first | rfl | simp, by go_num, Lib.hid (by have := HS.out; rw [if_neg (by simp [QpP.sgn]; omega)] at this; exact this), hB2⟩
            case measure => simp [intOf]; omega
    · go_wp2
      go_ret
      have hke : k = a0.size := by omega
      exact ⟨bulletinref17_Line.ret_str (by rw [← HO.out, hke, Aid.sz, List.drop_eq_nil_of_le (Nat.le_refl _)]; simp [QpP.lineGo]), hB⟩

end Go.Proofs.YtaflpmpffppfaaaDoor.X
