-- Written by a program (print.py's text, with contracts of this session's own put in). Not trusted: Lean checks it.
import Derived.Test.YtdjpdbdilcjakaaDoorX0
import Derived.Test.YtdjpdbdilcjakaaDoorX3
namespace Go.Proofs.YtdjpdbdilcjakaaDoor.X
open Go.RowKit Go.Proofs.YtdjpdbdilcjakaaDoorW.PrintWords Go.Proofs.YtdjpdbdilcjakaaDoorW.PrintLast Go.Proofs.YtdjpdbdilcjakaaDoorW.PrintMore
attribute [local go_sem] max2_int min2_int max_two min_two max_three min_three max_four min_four   -- for this text's walks alone
set_option linter.unusedVariables false
set_option linter.unusedSimpArgs false

/-! ### reply_Reply_Text: function 12, a contract written by hand -/
-- IMPORT Derived.Lib.OthersKept
-- IMPORT Derived.Laws.Rows
def reply_text (c : ByteArray) : List ByteArray → ByteArray → Option ByteArray
  | [], acc => some acc
  | x :: xs, acc => if acc.size + c.size + x.size + 10 ≤ 140737488355328 then reply_text c xs (acc ++ (c ++ (if xs = [] then (⟨#[32]⟩ : ByteArray) else (⟨#[45]⟩ : ByteArray)) ++ x ++ (⟨#[13, 10]⟩ : ByteArray))) else none
theorem reply_new (w : World) (cs : Array Value) (t : TypeId) (j : Nat) (v : Value) (h : cs[j]? = some v) : (w.alloc (.cells cs t)).cell? ⟨w.heap.size, j, none⟩ = some v := (cell_of_row _ _ _ _ _ _ (heap_alloc_new w _)).trans h
theorem reply_old (w : World) (o : Obj) (a : Addr) (v : Value) (h : w.cell? a = some v) : (w.alloc o).cell? a = some v := (((Below.refl w.heap.size w).alloc (Nat.le_refl _) o).cell (World.block_lt_of_cell? _ _ h)).trans h
theorem reply_rd' (l : List ByteArray) (i : Nat) (h : i < l.length) : rdOf ByteArray.empty l (i : Int) = l[i] := by simp [rdOf, h]
def reply_Reply_Text.f (a0_0 : Int) (l0_1 : List ByteArray) : Option ByteArray := (strconv_Itoa.f a0_0).bind fun c => reply_text c (if l0_1 = [] then [(⟨#[]⟩ : ByteArray)] else l0_1) ⟨#[]⟩
set_option maxHeartbeats 8000000 in
set_option maxRecDepth 100000 in
theorem reply_Reply_Text.calls (a0_0 : Int) (A0_1 : Option Addr) (c0_1 : Nat) (l0_1 : List ByteArray) (r : ByteArray) (w : World) (hT0 : Aside0 (Tabs w)) (hr0_1 : Kd.C Kd.string w A0_1 l0_1.length l0_1) (hc0_1 : l0_1.length ≤ c0_1) (h : reply_Reply_Text.f a0_0 l0_1 = some r) :
    Calls Tryd.prog 12 #[.agg #[.int .i64 a0_0, .slice A0_1 l0_1.length c0_1]] w fun e w' => e = .returned (.string r) ∧ Below w.heap.size w w' := by
  unfold reply_Reply_Text.f at h
  obtain ⟨c, hc, h⟩ := Option.bind_eq_some_iff.mp h
  have HI := Aside0.mk hc
  have HR := Aside0.mk hr0_1
  have hlen : l0_1.length ≤ 9223372036854775807 := hr0_1.2.1
  clear hc hr0_1
  by_cases hl : l0_1 = []
  · subst hl
    rw [if_pos rfl] at h
    have H := Aside0.mk (show reply_text c ([(⟨#[]⟩ : ByteArray)].drop 0) ⟨#[]⟩ = some r from h)
    clear h
    go_enter Tryd.func12, Tryd.ntmps12
    go_wp2
    go_loopw [16] (fun v16 wr => ∃ (i : Nat) (acc : ByteArray), v16 = .int .i64 i ∧ i ≤ 1 ∧ Aside0 (reply_text c ([(⟨#[]⟩ : ByteArray)].drop i) acc = some r) ∧ Lib.IsBuilderF 52 5 (w.heap.size + 2) (w.heap.size + 2) (Lib.byteCells acc.data.toList) wr ∧ Aside0 (wr.cell? ⟨w.heap.size, 0, none⟩ = some (.int .i64 a0_0)) ∧ Aside0 (wr.cell? ⟨w.heap.size + 1, 0, none⟩ = some (.string ⟨#[]⟩)) ∧ w.heap.size + 2 ≤ wr.heap.size ∧ Below w.heap.size w wr) (fun v16 _ => 1 - (intOf v16).toNat)
    case atStart => exact ⟨0, ⟨#[]⟩, rfl, Nat.zero_le _, H, Lib.IsBuilderF.of (by have := Lib.fresh_isBuilder 52 5 ((w.alloc (.cells #[.int .i64 a0_0, .slice A0_1 0 c0_1] 27)).alloc (.cells #[.string ⟨#[]⟩] 9)); rw [World.size_alloc, World.size_alloc] at this; exact this), ⟨reply_old _ _ _ _ (reply_old _ _ _ _ (reply_new w _ _ 0 _ rfl))⟩, ⟨reply_old _ _ _ _ (by have := reply_new (w.alloc (.cells #[.int .i64 a0_0, .slice A0_1 0 c0_1] 27)) #[.string ⟨#[]⟩] 9 0 _ rfl; rw [World.size_alloc] at this; exact this)⟩, by simp only [World.size_alloc]; omega, (((Below.refl _ w).alloc (Nat.le_refl _) _).alloc (by simp only [World.size_alloc]; omega) _).alloc (by simp only [World.size_alloc]; omega) _⟩
    case round =>
      obtain ⟨i, acc, rfl, hi, HA, hI, HC, HL, hBs, hB⟩ := hrel
      clear H
      have hg := HA.out
      by_cases hlt : i < 1
      · obtain rfl : i = 0 := by omega
        simp only [List.drop_zero, reply_text] at hg
        obtain ⟨x, hxe⟩ : ∃ x, (⟨#[]⟩ : ByteArray) = x := ⟨_, rfl⟩
        have hx0 : x.size = 0 := by rw [← hxe]; rfl
        have hcz := HC.out
        have hlz := HL.out
        rw [hxe] at hg hlz
        by_cases hsz : acc.size + c.size + x.size + 10 ≤ 140737488355328
        · rw [if_pos hsz] at hg
          have HT := Tabs.a hT0 hB
          have z32 : (⟨#[32]⟩ : ByteArray).size = 1 := rfl
          have z2 : (⟨#[13, 10]⟩ : ByteArray).size = 2 := rfl
          have hsize : (c ++ (⟨#[32]⟩ : ByteArray) ++ x ++ (⟨#[13, 10]⟩ : ByteArray)).size = c.size + 1 + x.size + 2 := by simp only [ByteArray.size_append, z32, z2]
          obtain ⟨T, hTd⟩ : ∃ T, c ++ (⟨#[32]⟩ : ByteArray) ++ x ++ (⟨#[13, 10]⟩ : ByteArray) = T := ⟨_, rfl⟩
          rw [if_pos (by trivial), hTd] at hg
          rw [hTd] at hsize
          have HG := Aside0.mk hg
          have HX := Aside0.mk hxe
          clear hg z32 z2 hxe hlt HA HL
          have HTS := Aside0.mk (show (Lib.byteCells acc.data.toList).length + T.size ≤ 140737488355328 by rw [Lib.byteCells_length, hsize]; show acc.size + _ ≤ _; omega)
          clear hsize
          go_wp2_with fail
          refine (strconv_Itoa.calls (hT0 := HT) a0_0 c _ HI.out).mono ?_
          rintro e w1 ⟨rfl, hb1⟩
          have hI1 := bldF_below hI hb1
          have hBs1 := Nat.le_trans hBs hb1.size
          have HC1 := Aside0.mk ((hb1.cell (World.block_lt_of_cell? _ _ hcz)).trans hcz)
          have HL1 : Aside0 (w1.cell? ⟨w.heap.size + 1, 0, none⟩ = some (.string ⟨#[]⟩)) := ⟨(hb1.cell (World.block_lt_of_cell? _ _ hlz)).trans (hlz.trans (by rw [HX.out]))⟩
          have hB1 := hB.trans (hb1.mono hB.size)
          go_wp2_with fail
          (try rw [hTd])
          refine (bld_WriteString (w.heap.size + 2) (w.heap.size + 2) _ T _ hI1 HTS.out hBs1).mono ?_
          rintro e w2 ⟨rfl, h2, hb2, _⟩
          go_wp2
          go_roundw
          case rel =>
            exact ⟨1, acc ++ T, by go_num, Nat.le_refl _, HG, by rw [bld_cells_append]; exact Or.inr h2, ⟨(hb2.cell (by show w.heap.size < w.heap.size + 2; omega)).trans HC1.out⟩, ⟨(hb2.cell (by show w.heap.size + 1 < w.heap.size + 2; omega)).trans HL1.out⟩, Nat.le_trans hBs1 hb2.size, hB1.trans (hb2.mono (by omega))⟩
          case measure => first | (simp [intOf]; done) | (simp [intOf]; omega)
        · rw [if_neg hsz] at hg
          exact absurd hg (by simp)
      · rw [List.drop_eq_nil_of_le (by simp; omega)] at hg
        simp only [reply_text] at hg
        obtain rfl := Option.some.inj hg
        go_wp2_with fail
        refine (bld_String (w.heap.size + 2) (w.heap.size + 2) acc.data.toList _ hI hBs).mono ?_
        rintro e w1 ⟨rfl, _, hb1, _⟩
        go_wp2
        go_ret
        exact ⟨rfl, hB.trans (hb1.mono (by omega))⟩
  · rw [if_neg hl] at h
    have hpos : 0 < l0_1.length := List.length_pos_iff.2 hl
    have hd0 : ((l0_1.length : Int) == 0) = false := beq_eq_false_iff_ne.mpr (by omega)
    have H := Aside0.mk (show reply_text c (l0_1.drop 0) ⟨#[]⟩ = some r from h)
    clear h hl
    go_enter Tryd.func12, Tryd.ntmps12
    go_wp2
    go_loopw [16] (fun v16 wr => ∃ (i : Nat) (acc : ByteArray), v16 = .int .i64 i ∧ i ≤ l0_1.length ∧ Aside0 (reply_text c (l0_1.drop i) acc = some r) ∧ Lib.IsBuilderF 52 5 (w.heap.size + 1) (w.heap.size + 1) (Lib.byteCells acc.data.toList) wr ∧ Aside0 (wr.cell? ⟨w.heap.size, 0, none⟩ = some (.int .i64 a0_0)) ∧ w.heap.size + 1 ≤ wr.heap.size ∧ Below w.heap.size w wr) (fun v16 _ => l0_1.length - (intOf v16).toNat)
    case atStart => exact ⟨0, ⟨#[]⟩, rfl, Nat.zero_le _, H, Lib.IsBuilderF.of (by have := Lib.fresh_isBuilder 52 5 (w.alloc (.cells #[.int .i64 a0_0, .slice A0_1 l0_1.length c0_1] 27)); rwa [World.size_alloc] at this), ⟨reply_old _ _ _ _ (reply_new w _ _ 0 _ rfl)⟩, by simp only [World.size_alloc]; omega, ((Below.refl _ w).alloc (Nat.le_refl _) _).alloc (by simp only [World.size_alloc]; omega) _⟩
    case round =>
      obtain ⟨i, acc, rfl, hi, HA, hI, HC, hBs, hB⟩ := hrel
      clear H
      have hg := HA.out
      by_cases hlt : i < l0_1.length
      · obtain ⟨ad, rfl, hx0⟩ := Kd.at_string HR.out (i : Int) (by omega) (by omega)
        have hx := (hB.cell (World.block_lt_of_cell? w _ hx0)).trans hx0
        rw [List.drop_eq_getElem_cons hlt] at hg
        simp only [reply_text] at hg
        rw [reply_rd' l0_1 i hlt] at hx
        obtain ⟨x, hxe⟩ : ∃ x, l0_1[i] = x := ⟨_, rfl⟩
        rw [hxe] at hx hg
        clear hx0 hxe HA
        by_cases hsz : acc.size + c.size + x.size + 10 ≤ 140737488355328
        · rw [if_pos hsz] at hg
          simp only [Int.toNat_natCast] at hx
          have hcz := HC.out
          have HT := Tabs.a hT0 hB
          have z32 : (⟨#[32]⟩ : ByteArray).size = 1 := rfl
          have z45 : (⟨#[45]⟩ : ByteArray).size = 1 := rfl
          have z2 : (⟨#[13, 10]⟩ : ByteArray).size = 2 := rfl
          by_cases hlast : i + 1 = l0_1.length
          · have hd1 : ((i : Int) == (l0_1.length : Int) - 1) = true := beq_iff_eq.mpr (by omega)
            have hnil : l0_1.drop (i + 1) = [] := List.drop_eq_nil_of_le (by omega)
            rw [if_pos hnil] at hg
            have hge : l0_1.length ≤ i + 1 := by omega
            clear hlast hnil
            have hsize : (c ++ (⟨#[32]⟩ : ByteArray) ++ x ++ (⟨#[13, 10]⟩ : ByteArray)).size = c.size + 1 + x.size + 2 := by simp only [ByteArray.size_append, z32, z45, z2]
            obtain ⟨T, hTd⟩ : ∃ T, c ++ (⟨#[32]⟩ : ByteArray) ++ x ++ (⟨#[13, 10]⟩ : ByteArray) = T := ⟨_, rfl⟩
            rw [hTd] at hsize hg
            have HG := Aside0.mk hg
            clear hg z32 z45 z2
            have HTS := Aside0.mk (show (Lib.byteCells acc.data.toList).length + T.size ≤ 140737488355328 by rw [Lib.byteCells_length, hsize]; show acc.size + _ ≤ _; omega)
            clear hsize
            go_wp2_with fail
            refine (strconv_Itoa.calls (hT0 := HT) a0_0 c _ HI.out).mono ?_
            rintro e w1 ⟨rfl, hb1⟩
            have hI1 := bldF_below hI hb1
            have hBs1 := Nat.le_trans hBs hb1.size
            have HC1 := Aside0.mk ((hb1.cell (World.block_lt_of_cell? _ _ hcz)).trans hcz)
            have hB1 := hB.trans (hb1.mono hB.size)
            go_wp2_with fail
            (try rw [hTd])
            refine (bld_WriteString (w.heap.size + 1) (w.heap.size + 1) _ T _ hI1 HTS.out hBs1).mono ?_
            rintro e w2 ⟨rfl, h2, hb2, _⟩
            go_wp2
            go_roundw
            case rel =>
              exact ⟨i + 1, acc ++ T, by go_num, by omega, HG, by rw [bld_cells_append]; exact Or.inr h2, ⟨(hb2.cell (by show w.heap.size < w.heap.size + 1; omega)).trans HC1.out⟩, Nat.le_trans hBs1 hb2.size, hB1.trans (hb2.mono (by omega))⟩
            case measure => first | (simp [intOf]; done) | (simp [intOf]; omega)
          · have hd1 : ((i : Int) == (l0_1.length : Int) - 1) = false := beq_eq_false_iff_ne.mpr (by omega)
            have hnil : ¬ l0_1.drop (i + 1) = [] := by intro h; have := congrArg List.length h; rw [List.length_drop] at this; simp at this; omega
            rw [if_neg hnil] at hg
            have hle2 : i + 2 ≤ l0_1.length := by omega
            clear hlast hnil
            have hsize : (c ++ (⟨#[45]⟩ : ByteArray) ++ x ++ (⟨#[13, 10]⟩ : ByteArray)).size = c.size + 1 + x.size + 2 := by simp only [ByteArray.size_append, z32, z45, z2]
            obtain ⟨T, hTd⟩ : ∃ T, c ++ (⟨#[45]⟩ : ByteArray) ++ x ++ (⟨#[13, 10]⟩ : ByteArray) = T := ⟨_, rfl⟩
            rw [hTd] at hsize hg
            have HG := Aside0.mk hg
            clear hg z32 z45 z2
            have HTS := Aside0.mk (show (Lib.byteCells acc.data.toList).length + T.size ≤ 140737488355328 by rw [Lib.byteCells_length, hsize]; show acc.size + _ ≤ _; omega)
            clear hsize
            go_wp2_with fail
            refine (strconv_Itoa.calls (hT0 := HT) a0_0 c _ HI.out).mono ?_
            rintro e w1 ⟨rfl, hb1⟩
            have hI1 := bldF_below hI hb1
            have hBs1 := Nat.le_trans hBs hb1.size
            have HC1 := Aside0.mk ((hb1.cell (World.block_lt_of_cell? _ _ hcz)).trans hcz)
            have hB1 := hB.trans (hb1.mono hB.size)
            go_wp2_with fail
            (try rw [hTd])
            refine (bld_WriteString (w.heap.size + 1) (w.heap.size + 1) _ T _ hI1 HTS.out hBs1).mono ?_
            rintro e w2 ⟨rfl, h2, hb2, _⟩
            go_wp2
            go_roundw
            case rel =>
              exact ⟨i + 1, acc ++ T, by go_num, by omega, HG, by rw [bld_cells_append]; exact Or.inr h2, ⟨(hb2.cell (by show w.heap.size < w.heap.size + 1; omega)).trans HC1.out⟩, Nat.le_trans hBs1 hb2.size, hB1.trans (hb2.mono (by omega))⟩
            case measure => first | (simp [intOf]; done) | (simp [intOf]; omega)
        · rw [if_neg hsz] at hg
          exact absurd hg (by simp)
      · rw [List.drop_eq_nil_of_le (by omega)] at hg
        simp only [reply_text] at hg
        obtain rfl := Option.some.inj hg
        go_wp2_with fail
        refine (bld_String (w.heap.size + 1) (w.heap.size + 1) acc.data.toList _ hI hBs).mono ?_
        rintro e w1 ⟨rfl, _, hb1, _⟩
        go_wp2
        go_ret
        exact ⟨rfl, hB.trans (hb1.mono (by omega))⟩

/-! ### reply_coded: function 28 -/
def reply_coded.f (a0 : Int) : Option (Bool) := if a0 ≥ 200 then (if a0 ≤ 599 then (some (decide ((Int.tmod (wrap64 (Int.tdiv a0 10)) 10) ≤ 5))) else (some false)) else (some false)
set_option maxHeartbeats 8000000 in
set_option maxRecDepth 100000 in
theorem reply_coded.calls (a0 : Int) (r : Bool) (w : World) (h : reply_coded.f a0 = some r) :
    Calls Tryd.prog 28 #[.int .i64 a0] w fun e w' => e = .returned (.bool r) ∧ Drawn0 w w' := by
  have H : (if a0 ≥ 200 then (if a0 ≤ 599 then (some (decide ((Int.tmod (wrap64 (Int.tdiv a0 10)) 10) ≤ 5))) else (some false)) else (some false)) = some r := h
  clear h
  by_cases c2 : a0 ≥ 200
  · rw [if_pos c2] at H
    have c2b0 : decide (200 ≤ a0) = true := decide_eq_true c2
    clear c2
    by_cases c3 : a0 ≤ 599
    · rw [if_pos c3] at H
      have c3b0 : decide (a0 ≤ 599) = true := decide_eq_true c3
      clear c3
      obtain rfl := Option.some.inj H
      go_enter Tryd.func28, Tryd.ntmps28
      go_wp2
      go_ret
      exact ⟨by first | rfl | (simp; done) | (simp [*]; done), by repeat (first | exact Drawn0.refl _ | apply Drawn0.step)⟩
    · rw [if_neg c3] at H
      have c3b0 : decide (a0 ≤ 599) = false := decide_eq_false c3
      clear c3
      obtain rfl := Option.some.inj H
      go_enter Tryd.func28, Tryd.ntmps28
      go_wp2
      go_ret
      exact ⟨by first | rfl | (simp; done) | (simp [*]; done), by repeat (first | exact Drawn0.refl _ | apply Drawn0.step)⟩
  · rw [if_neg c2] at H
    have c2b0 : decide (200 ≤ a0) = false := decide_eq_false c2
    clear c2
    obtain rfl := Option.some.inj H
    go_enter Tryd.func28, Tryd.ntmps28
    go_wp2
    go_ret
    exact ⟨by first | rfl | (simp; done) | (simp [*]; done), by repeat (first | exact Drawn0.refl _ | apply Drawn0.step)⟩

-- NOT PRINTED: function 40 (slices_IndexFunc_string_string)

-- NOT PRINTED: function 29 (slices_ContainsFunc_string_string)

/-! ### glyph_plain: function 45 -/
def glyph_plain.f (a0 : Int) : Option (Bool) := if a0 ≥ 32 then (some (decide (a0 ≤ 126))) else (some false)
set_option maxHeartbeats 8000000 in
set_option maxRecDepth 100000 in
theorem glyph_plain.calls (a0 : Int) (r : Bool) (w : World) (h : glyph_plain.f a0 = some r) :
    Calls Tryd.prog 45 #[.int .i32 a0] w fun e w' => e = .returned (.bool r) ∧ Drawn0 w w' := by
  have H : (if a0 ≥ 32 then (some (decide (a0 ≤ 126))) else (some false)) = some r := h
  clear h
  by_cases c2 : a0 ≥ 32
  · rw [if_pos c2] at H
    have c2b0 : decide (32 ≤ a0) = true := decide_eq_true c2
    clear c2
    obtain rfl := Option.some.inj H
    go_enter Tryd.func45, Tryd.ntmps45
    go_wp2
    go_ret
    exact ⟨by first | rfl | (simp; done) | (simp [*]; done), by repeat (first | exact Drawn0.refl _ | apply Drawn0.step)⟩
  · rw [if_neg c2] at H
    have c2b0 : decide (32 ≤ a0) = false := decide_eq_false c2
    clear c2
    obtain rfl := Option.some.inj H
    go_enter Tryd.func45, Tryd.ntmps45
    go_wp2
    go_ret
    exact ⟨by first | rfl | (simp; done) | (simp [*]; done), by repeat (first | exact Drawn0.refl _ | apply Drawn0.step)⟩

end Go.Proofs.YtdjpdbdilcjakaaDoor.X
