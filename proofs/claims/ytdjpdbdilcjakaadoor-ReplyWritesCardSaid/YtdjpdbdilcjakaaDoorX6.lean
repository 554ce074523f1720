-- Written by a program (print.py's text, with contracts of this session's own put in). Not trusted: Lean checks it.
import Derived.Test.YtdjpdbdilcjakaaDoorX0
import Derived.Test.YtdjpdbdilcjakaaDoorX4
import Derived.Test.YtdjpdbdilcjakaaDoorX5
namespace Go.Proofs.YtdjpdbdilcjakaaDoor.X
open Go.RowKit Go.Proofs.YtdjpdbdilcjakaaDoorW.PrintWords Go.Proofs.YtdjpdbdilcjakaaDoorW.PrintLast Go.Proofs.YtdjpdbdilcjakaaDoorW.PrintMore
attribute [local go_sem] max2_int min2_int max_two min_two max_three min_three max_four min_four   -- for this text's walks alone
set_option linter.unusedVariables false
set_option linter.unusedSimpArgs false

/-! ### reply_Reply_Right: function 14, a contract written by hand -/
-- IMPORT Derived.Deep.QuietTactic
/-- the first line that is none -/
def reply_idx (k : Nat) : List ByteArray → Nat → Option Int
  | [], _ => some (-1)
  | x :: xs, i => (reply_lined.f k x).bind fun q => if q = true then reply_idx k xs (i + 1) else some (i : Int)
theorem reply_idx_mono (k : Nat) : ∀ (l : List ByteArray) (i : Nat), LeO (reply_idx k l i) (reply_idx (k + 1) l i)
  | [], _ => LeO.refl _
  | x :: xs, i => by
    unfold reply_idx
    exact LeO.bind (reply_lined.mono _ _) (fun q => LeO.ite (reply_idx_mono k xs (i + 1)) (LeO.refl _))
theorem reply_rd (l : List ByteArray) (i : Nat) (h : i < l.length) : rdOf ByteArray.empty l (i : Int) = l[i] := by simp [rdOf, h]
set_option maxHeartbeats 1000000 in
theorem reply_notlined (k : Nat) (a0 : ByteArray) (q : Bool) (w : World) (h : reply_lined.f k a0 = some q) :
    Calls Tryd.prog 30 #[.string a0] w fun e w' => e = .returned (.bool (!q)) ∧ Below w.heap.size w w' := by
  have H := Aside0.mk h
  clear h
  go_enter Tryd.func30, Tryd.ntmps30
  go_wp2_with fail
  refine (reply_lined.calls k _ q _ H.out).mono ?_
  rintro e w1 ⟨rfl, hb1⟩
  go_wp2
  go_ret
  exact ⟨rfl, hb1⟩
set_option maxHeartbeats 4000000 in
set_option maxRecDepth 100000 in
theorem reply_index_calls (k : Nat) (A0 : Option Addr) (c0 : Nat) (l0 : List ByteArray) (r : Int) (w : World) (hr0 : Kd.C Kd.string w A0 l0.length l0) (h : reply_idx k l0 0 = some r) :
    Calls Tryd.prog 40 #[.slice A0 l0.length c0, .func (.func 30) #[] #[]] w fun e w' => e = .returned (.int .i64 r) ∧ Below w.heap.size w w' := by
  have H := Aside0.mk (show reply_idx k (l0.drop 0) 0 = some r by simpa using h)
  have HR := Aside0.mk hr0
  have hlen : l0.length ≤ 9223372036854775807 := hr0.2.1
  clear h hr0
  go_enter Tryd.func40, Tryd.ntmps40
  go_wp2
  go_loopw [8] (fun v8 wr => ∃ (i : Nat), v8 = .int .i64 i ∧ i ≤ l0.length ∧ Aside0 (reply_idx k (l0.drop i) i = some r) ∧ Below w.heap.size w wr) (fun v8 _ => l0.length - (intOf v8).toNat)
  case atStart => exact ⟨0, rfl, Nat.zero_le _, H, Below.refl _ _⟩
  case round =>
    obtain ⟨i, rfl, hi, HA, hB⟩ := hrel
    clear H
    by_cases hlt : i < l0.length
    · obtain ⟨ad, rfl, hx⟩ := Kd.at_string HR.out (i : Int) (by omega) (by omega)
      have hx2 := (hB.cell (World.block_lt_of_cell? w _ hx)).trans hx
      have hg := HA.out
      rw [List.drop_eq_getElem_cons hlt] at hg
      simp only [reply_idx] at hg
      obtain ⟨q, hq, hg⟩ := Option.bind_eq_some_iff.mp hg
      rw [reply_rd l0 i hlt] at hx2
      have HQ := Aside0.mk hq
      clear hq hx HA
      simp only [Int.toNat_natCast] at hx2
      have hszl := hB.size
      cases q with
      | true =>
        rw [if_pos rfl] at hg
        have HG := Aside0.mk hg
        clear hg
        go_wp2_with fail
        refine (reply_notlined k _ true _ HQ.out).mono ?_
        rintro e w1 ⟨rfl, hb1⟩
        go_wp2
        go_roundw
        case rel => exact ⟨i + 1, by go_num, by omega, HG, hB.trans (hb1.mono hszl)⟩
        case measure => simp [intOf]; omega
      | false =>
        rw [if_neg (by simp)] at hg
        obtain rfl := Option.some.inj hg
        go_wp2_with fail
        refine (reply_notlined k _ false _ HQ.out).mono ?_
        rintro e w1 ⟨rfl, hb1⟩
        go_wp2
        go_ret
        exact ⟨rfl, hB.trans (hb1.mono hszl)⟩
    · have hg := HA.out
      rw [List.drop_eq_nil_of_le (by omega)] at hg
      simp only [reply_idx] at hg
      obtain rfl := Option.some.inj hg
      go_wp2
      go_ret
      exact ⟨rfl, hB⟩
set_option maxHeartbeats 1000000 in
theorem reply_contains_calls (k : Nat) (A0 : Option Addr) (c0 : Nat) (l0 : List ByteArray) (r : Int) (w : World) (hr0 : Kd.C Kd.string w A0 l0.length l0) (h : reply_idx k l0 0 = some r) :
    Calls Tryd.prog 29 #[.slice A0 l0.length c0, .func (.func 30) #[] #[]] w fun e w' => e = .returned (.bool (decide (0 ≤ r))) ∧ Below w.heap.size w w' := by
  have H := Aside0.mk h
  have HR := Aside0.mk hr0
  clear h hr0
  go_enter Tryd.func29, Tryd.ntmps29
  go_wp2_with fail
  refine (reply_index_calls k A0 c0 l0 r _ HR.out H.out).mono ?_
  rintro e w1 ⟨rfl, hb1⟩
  by_cases hr : 0 ≤ r
  · have hd : decide (0 ≤ r) = true := decide_eq_true hr
    go_wp2
    go_ret
    exact ⟨by rw [hd]; rfl, hb1⟩
  · have hd : decide (0 ≤ r) = false := decide_eq_false hr
    go_wp2
    go_ret
    exact ⟨by rw [hd]; rfl, hb1⟩
def reply_Reply_Right.f (k : Nat) (a0_0 : Int) (l0_1 : List ByteArray) : Option Bool := (reply_coded.f a0_0).bind fun b => if b = true then (if 0 < l0_1.length then (reply_idx k l0_1 0).bind fun r => some (!(decide (0 ≤ r))) else some false) else some false
theorem reply_Reply_Right.mono : ∀ a0_0 l0_1 k, LeO (reply_Reply_Right.f k a0_0 l0_1) (reply_Reply_Right.f (k + 1) a0_0 l0_1) := fun a0_0 l0_1 k => LeO.bind (LeO.refl _) (fun _ => LeO.ite (LeO.ite (LeO.bind (reply_idx_mono k l0_1 0) (fun _ => LeO.refl _)) (LeO.refl _)) (LeO.refl _))
set_option maxHeartbeats 4000000 in
set_option maxRecDepth 100000 in
theorem reply_Reply_Right.calls (k : Nat) (a0_0 : Int) (A0_1 : Option Addr) (c0_1 : Nat) (l0_1 : List ByteArray) (r : Bool) (w : World) (hr0_1 : Kd.C Kd.string w A0_1 l0_1.length l0_1) (hc0_1 : l0_1.length ≤ c0_1) (h : reply_Reply_Right.f k a0_0 l0_1 = some r) :
    Calls Tryd.prog 14 #[.agg #[.int .i64 a0_0, .slice A0_1 l0_1.length c0_1]] w fun e w' => e = .returned (.bool r) ∧ Below w.heap.size w w' := by
  unfold reply_Reply_Right.f at h
  have HR := Aside0.mk hr0_1
  clear hr0_1
  obtain ⟨b, hb, h⟩ := Option.bind_eq_some_iff.mp h
  have HB := Aside0.mk hb
  clear hb
  cases b with
  | false =>
    rw [if_neg (by simp)] at h
    obtain rfl := Option.some.inj h
    clear h
    go_enter Tryd.func14, Tryd.ntmps14
    go_wp2_with fail
    refine (reply_coded.calls a0_0 false _ HB.out).mono ?_
    rintro e w1 ⟨rfl, ⟨nd, rfl⟩⟩
    go_wp2
    go_ret
    exact ⟨rfl, (by repeat (first | (with_reducible first | exact Below.refl _ _ | apply below_alloc | apply pw_below_drewN | apply below_drew1 | exact hb1) | exact Below.refl _ _))⟩
  | true =>
    rw [if_pos rfl] at h
    by_cases hl : 0 < l0_1.length
    · rw [if_pos hl] at h
      obtain ⟨q, hq, h⟩ := Option.bind_eq_some_iff.mp h
      obtain rfl := Option.some.inj h
      have HQ := Aside0.mk hq
      clear hq h
      have hd : decide (0 < (l0_1.length : Int)) = true := decide_eq_true (by omega)
      go_enter Tryd.func14, Tryd.ntmps14
      go_wp2_with fail
      refine (reply_coded.calls a0_0 true _ HB.out).mono ?_
      rintro e w1 ⟨rfl, ⟨nd, rfl⟩⟩
      go_wp2_with fail
      refine (reply_contains_calls k A0_1 c0_1 l0_1 q _ (Kd.C_below HR.out (by repeat (first | (with_reducible first | exact Below.refl _ _ | apply below_alloc | apply pw_below_drewN | apply below_drew1 | exact hb1) | exact Below.refl _ _))) HQ.out).mono ?_
      rintro e w2 ⟨rfl, hb2⟩
      go_wp2
      go_ret
      exact ⟨rfl, (((by repeat (first | (with_reducible first | exact Below.refl _ _ | apply below_alloc | apply pw_below_drewN | apply below_drew1 | exact hb1) | exact Below.refl _ _)) : Below w.heap.size w _).trans (hb2.mono (by simp)))⟩
    · rw [if_neg hl] at h
      obtain rfl := Option.some.inj h
      clear h
      have hd : decide (0 < (l0_1.length : Int)) = false := decide_eq_false (by omega)
      go_enter Tryd.func14, Tryd.ntmps14
      go_wp2_with fail
      refine (reply_coded.calls a0_0 true _ HB.out).mono ?_
      rintro e w1 ⟨rfl, ⟨nd, rfl⟩⟩
      go_wp2
      go_ret
      exact ⟨rfl, (by repeat (first | (with_reducible first | exact Below.refl _ _ | apply below_alloc | apply pw_below_drewN | apply below_drew1 | exact hb1) | exact Below.refl _ _))⟩

-- NOT PRINTED: function 60 (bytealg_IndexByteString)

-- NOT PRINTED: function 51 (stringslite_IndexByte)

-- NOT PRINTED: function 52 (bytealg_IndexString)

-- NOT PRINTED: function 53 (bytealg_Cutover)

-- NOT PRINTED: function 61 (bytealg_hashStr_string)

-- NOT PRINTED: function 54 (bytealg_IndexRabinKarp_string)

-- NOT PRINTED: function 46 (stringslite_Index)

-- NOT PRINTED: function 42 (stringslite_Cut)

/-! ### strings_Cut: function 34, a contract written by hand -/
def strings_Cut.f (a0 a1 : ByteArray) : Option (ByteArray × ByteArray × Bool) := if a0.size < 4294967281 then some (⟨(Lib.cut a0.data.toList a1.data.toList).1.toArray⟩, ⟨(Lib.cut a0.data.toList a1.data.toList).2.1.toArray⟩, (Lib.cut a0.data.toList a1.data.toList).2.2) else none
theorem strings_Cut.calls (a0 a1 : ByteArray) (r1 r2 : ByteArray) (r3 : Bool) (w : World) (hT0 : Aside0 (Tabs w)) (h : strings_Cut.f a0 a1 = some (r1, r2, r3)) :
    Calls Tryd.prog 34 #[.string a0, .string a1] w fun e w' => e = .returned (.tuple #[.string r1, .string r2, .bool r3]) ∧ Drawn0 w w' := by
  unfold strings_Cut.f at h
  by_cases c : a0.size < 4294967281
  · rw [if_pos c] at h
    have h' := Option.some.inj h
    obtain ⟨m, hm⟩ := hT0.out.max
    refine (Tryd.strings_Cut a0 a1 m w c hm).mono ?_
    rintro e w' ⟨rfl, hd⟩
    have e1 := congrArg Prod.fst h'
    have e2 := congrArg (fun z => z.2.1) h'
    have e3 := congrArg (fun z => z.2.2) h'
    dsimp only at e1 e2 e3
    rw [← e1, ← e2, ← e3]
    exact ⟨rfl, ⟨hd⟩⟩
  · rw [if_neg c] at h
    exact absurd h (by simp)

end Go.Proofs.YtdjpdbdilcjakaaDoor.X
