/- batch: BatchMany, walked. -/
import Derived.Test.YtjcilknfhkpepaaBatM
import Derived.Test.YtjcilknfhkpepaaBatG
namespace Go.Proofs.Ytjcilknfhkpepaa.Bat
open Go.RowKit Go.Proofs.Ytjcilknfhkpepaa.Mem Go.Proofs.Ytjcilknfhkpepaa.X Go.Proofs.YtjcilknfhkpepaaW.PrintWords Go.Proofs.YtjcilknfhkpepaaW.PrintLast Go.Proofs.YtjcilknfhkpepaaW.PrintMore Go.Proofs.Ytjcilknfhkpepaa.Aid
set_option linter.unusedVariables false
set_option linter.unusedSimpArgs false
theorem wi1 (i : Nat) (h : i < 2100) : wrap64 ((i : Int) + 1) = ((i + 1 : Nat) : Int) := by
  rw [w64 (by omega) (by omega)]; rfl
set_option maxHeartbeats 8000000 in
set_option maxRecDepth 100000 in
theorem many_calls (w : World) (n step : Int) : Calls Try.prog 4 #[.int .i64 n, .int .i64 step] w fun e w' => e = .returned (.bool true) ∧ Below w.heap.size w w' := by
  by_cases hn0 : n < 0
  · go_enter Try.func4, Try.ntmps4
    go_wp2_with fail
    refine (works_calls w).mono ?_
    rintro e w1 ⟨rfl, hb1⟩
    go_wp2
    go_ret
    exact ⟨rfl, hb1⟩
  by_cases hn1 : 2100 < n
  · go_enter Try.func4, Try.ntmps4
    go_wp2_with fail
    refine (works_calls w).mono ?_
    rintro e w1 ⟨rfl, hb1⟩
    go_wp2
    go_ret
    exact ⟨rfl, hb1⟩
  obtain ⟨m, rfl⟩ : ∃ m : Nat, n = (m : Int) := ⟨n.toNat, by omega⟩
  have hm : m ≤ 2100 := by omega
  clear hn0
  go_enter Try.func4, Try.ntmps4
  have hn0 : ¬ ((m : Int) < 0) := by omega
  go_wp2_with fail
  refine (new_calls w).mono ?_
  rintro e w1 ⟨rfl, h1, hb1⟩
  obtain ⟨p, hp⟩ : ∃ p, w.heap.size = p := ⟨_, rfl⟩
  have HP := Lib.hid hp
  have HM := Lib.hid hm
  have hpb : p ≤ w1.heap.size := by rw [← hp]; exact hb1.size
  rw [hp] at h1 hb1
  simp only [hp]
  clear hp hn0 hn1 hm
  go_wp2_with fail
  go_loopw [6] (fun x wr => ∃ (i : Nat) (v' : Value), x = .int .i64 i ∧ i ≤ m ∧ Bt wr p v' (mk (min i 2000)) ∧ (∀ k, own v' k → p ≤ k) ∧ Below p w wr) (fun x _ => m - (intOf x).toNat)
  case atStart => exact ⟨0, _, rfl, Nat.zero_le _, h1, fun k hk => (by cases hk), hb1⟩
  case round =>
    obtain ⟨i, v', rfl, hi, hbt, hown, hbw⟩ := hrel
    have hpw : p ≤ wr.heap.size := Nat.le_trans (by rw [← HP.out]; exact Nat.le_refl _) hbw.size
    clear h1 hb1 hpb
    by_cases hlt : i < m
    case pos =>
      have hil : (i : Int) < (m : Int) := by omega
      have hmp := many_put i (by have := HM.out; omega)
      have HMP := Lib.hid hmp
      have HI := Lib.hid hlt
      have HOW := Lib.hid hown
      have hsr := mk_sorted (min i 2000) (by have := HM.out; omega)
      have hln : (mk (min i 2000)).length ≤ 2000 := by rw [mk_len]; omega
      have hnum := bulletinlaw10_number.calls (i : Int) (nk i) wr (nk_num i)
      clear hi hown hmp
      by_cases h2 : i < 2000
      · have hi2 : (i : Int) < 2000 := by omega
        have HI2 := Lib.hid h2
        clear h2
        go_wp2_with fail
        refine hnum.mono ?_
        rintro e w2 ⟨rfl, hb2⟩
        have hpt := put_calls w2 p v' _ (nk i) ⟨#[118]⟩ (hbt.below hb2) hsr hln
        rw [HMP.out, if_pos HI2.out] at hpt
        have hbw2 := hbw.trans (hb2.mono hpw)
        clear hnum hsr hln hbt hbw hb2
        go_wp2_with fail
        refine hpt.mono ?_
        rintro e w3 ⟨v3, rfl, hbt3, ho3, hn3⟩
        have hpw2 : p ≤ w2.heap.size := Nat.le_trans (by rw [← HP.out]; exact Nat.le_refl _) hbw2.size
        have hbw3 := hbw2.trans (ho3.to_below hpw2 (by
          rintro k (rfl | e)
          · exact Nat.le_refl _
          · exact HOW.out k e))
        have hown3 : ∀ k, own v3 k → p ≤ k := fun k hk => (hn3 k hk).elim (HOW.out k) (fun e => Nat.le_trans hpw2 e)
        have H3 := Lib.hid (And.intro hbt3 (And.intro hown3 hbw3))
        clear hpt hbw2 hbt3 ho3 hn3 hbw3 hown3 hpw hpw2
        go_wp2
        go_roundw
        case rel => exact ⟨i + 1, v3, rfl, HI.out, H3.out.1, H3.out.2.1, H3.out.2.2⟩
        case measure =>
          have := HI.out
          show m - ((i : Int) + 1).toNat < m - ((i : Int)).toNat
          omega
      · have hi2 : ¬ (i : Int) < 2000 := by omega
        have hi3 : 2000 ≤ (i : Int) := by omega
        have HI2 := Lib.hid h2
        clear h2
        go_wp2_with fail
        refine hnum.mono ?_
        rintro e w2 ⟨rfl, hb2⟩
        have hpt := put_calls w2 p v' _ (nk i) ⟨#[118]⟩ (hbt.below hb2) hsr hln
        rw [HMP.out, if_neg HI2.out] at hpt
        have hbw2 := hbw.trans (hb2.mono hpw)
        clear hnum hsr hln hbt hbw hb2
        go_wp2_with fail
        refine hpt.mono ?_
        rintro e w3 ⟨v3, rfl, hbt3, ho3, hn3⟩
        have hpw2 : p ≤ w2.heap.size := Nat.le_trans (by rw [← HP.out]; exact Nat.le_refl _) hbw2.size
        have hbw3 := hbw2.trans (ho3.to_below hpw2 (by
          rintro k (rfl | e)
          · exact Nat.le_refl _
          · exact HOW.out k e))
        have hown3 : ∀ k, own v3 k → p ≤ k := fun k hk => (hn3 k hk).elim (HOW.out k) (fun e => Nat.le_trans hpw2 e)
        have H3 := Lib.hid (And.intro hbt3 (And.intro hown3 hbw3))
        clear hpt hbw2 hbt3 ho3 hn3 hbw3 hown3 hpw hpw2
        go_wp2
        go_roundw
        case rel => exact ⟨i + 1, v3, by rw [wi1 i (Nat.lt_of_lt_of_le HI.out HM.out)], HI.out, H3.out.1, H3.out.2.1, H3.out.2.2⟩
        case measure =>
          rw [wi1 i (Nat.lt_of_lt_of_le HI.out HM.out)]
          have := HI.out
          show m - (((i + 1 : Nat) : Int)).toNat < m - ((i : Int)).toNat
          omega
    case neg =>
      have hil : ¬ (i : Int) < (m : Int) := by omega
      obtain rfl : i = m := by omega
      obtain ⟨k, hk, hkb⟩ := below_2100 step
      have HK := Lib.hid hk
      have HKB := Lib.hid hkb
      have HOW := Lib.hid hown
      have HBT := Lib.hid hbt
      clear hk hkb hown hi hlt hbt
      go_wp2_with fail
      refine (bulletinbook_Below.calls step 2100 (k : Int) wr HKB.out).mono ?_
      rintro e w2 ⟨rfl, hd2⟩
      have hb2 : Below wr.heap.size wr w2 := hd2.below
      have hbt2 := HBT.out.below hb2
      have hbw2 := hbw.trans (hb2.mono hpw)
      have hpw2 : p ≤ w2.heap.size := Nat.le_trans hpw hb2.size
      clear hd2 hb2 hbw hpw
      have hn2 := bulletinlaw10_number.calls (k : Int) (nk k) w2 (nk_num k)
      go_wp2_with fail
      refine hn2.mono ?_
      rintro e w3 ⟨rfl, hb3⟩
      have hbt3 := hbt2.below hb3
      have hbw3 := hbw2.trans (hb3.mono hpw2)
      have hpw3 : p ≤ w3.heap.size := Nat.le_trans hpw2 hb3.size
      clear hn2 hb3 hbw2 hpw2 hbt2
      obtain ⟨T, hT⟩ : ∃ T, decide (k < i ∧ k < 2000 ∨ i < 2000) = T := ⟨_, rfl⟩
      obtain ⟨l', hch, hsl, hll, hth, hgn⟩ := many_del i k HM.out HK.out T hT.symm
      have hdl := del_calls w3 p v' _ (nk k) hbt3 (mk_sorted _ (by have := HM.out; omega)) (by rw [mk_len]; omega)
      rw [hch] at hdl
      obtain ⟨ee, hee⟩ : ∃ x, (if T = true then (0 : Int) else 8) = x := ⟨_, rfl⟩
      dsimp only at hdl
      rw [hee] at hdl
      have HEE := Lib.hid hee
      clear hee
      have HT := Lib.hid hT
      have HLL := Lib.hid (And.intro hsl (And.intro hll (And.intro hth hgn)))
      clear hch hT hsl hll hth hgn hbt3
      go_wp2_with fail
      refine hdl.mono ?_
      rintro e w4 ⟨v4, rfl, hbt4, ho4, hn4⟩
      have hbw4 := hbw3.trans (ho4.to_below hpw3 (by
        rintro k (rfl | e)
        · exact Nat.le_refl _
        · exact HOW.out k e))
      have hpw4 : p ≤ w4.heap.size := Nat.le_trans hpw3 ho4.size
      clear hdl ho4 hn4 hbw3 hpw3
      have hn5 := bulletinlaw10_number.calls (k : Int) (nk k) w4 (nk_num k)
      go_wp2_with fail
      refine hn5.mono ?_
      rintro e w5 ⟨rfl, hb5⟩
      have hbt5 := hbt4.below hb5
      have hbw5 := hbw4.trans (hb5.mono hpw4)
      have hpw5 : p ≤ w5.heap.size := Nat.le_trans hpw4 hb5.size
      clear hn5 hb5 hbw4 hpw4 hbt4
      have hg := get_calls w5 p v4 l' (nk k) hbt5 HLL.out.1 (by have := HLL.out.2.1; omega)
      rw [HLL.out.2.2.1] at hg
      obtain ⟨cc, hcc⟩ : ∃ cc, getOf l' (nk k) = cc := ⟨_, rfl⟩
      have hcg : cc.gone = T := by rw [← hcc]; exact HLL.out.2.2.2
      rw [hcc] at hg
      obtain ⟨ck, cv, cg⟩ := cc
      obtain rfl : cg = T := hcg
      unfold vch at hg
      clear hcc
      go_wp2_with fail
      refine hg.mono ?_
      rintro e w6 ⟨rfl, hb6⟩
      have hbt6 := hbt5.below hb6
      have hbw6 := hbw5.trans (hb6.mono hpw5)
      have hpw6 : p ≤ w6.heap.size := Nat.le_trans hpw5 hb6.size
      clear hg hb6 hbw5 hpw5 hbt5
      have hbt7 := hbt6.alloc (.cells #[.string ck, .string cv, .bool cg] 31)
      have hbw7 := hbw6.alloc hpw6 (.cells #[.string ck, .string cv, .bool cg] 31)
      have hpw7 : p ≤ (w6.alloc (.cells #[.string ck, .string cv, .bool cg] 31)).heap.size := Nat.le_trans hpw6 (by rw [World.size_alloc]; omega)
      have hln7 := len_calls _ p v4 l' hbt7
      have hll : (l'.length : Int) ≤ 2000 := by have := HLL.out.2.1; omega
      clear hbt6 hbw6 hpw6 hbt7
      have hcase : ((k : Int) < (i : Int) ∧ (k : Int) < 2000 ∧ cg = true ∧ ee = 0) ∨ (¬ (k : Int) < (i : Int) ∧ (i : Int) < 2000 ∧ cg = true ∧ ee = 0) ∨ ((k : Int) < (i : Int) ∧ ¬ (k : Int) < 2000 ∧ ¬ (i : Int) < 2000 ∧ cg = false ∧ ee = 8) ∨ (¬ (k : Int) < (i : Int) ∧ ¬ (i : Int) < 2000 ∧ cg = false ∧ ee = 8) := by
        have hT := HT.out
        by_cases hA : k < i ∧ k < 2000
        · exact .inl ⟨by omega, by omega, by rw [← hT]; exact decide_eq_true (.inl hA), by rw [← HEE.out, ← hT, if_pos (decide_eq_true (.inl hA))]⟩
        · by_cases hB : i < 2000
          · exact .inr (.inl ⟨by omega, by omega, by rw [← hT]; exact decide_eq_true (.inr hB), by rw [← HEE.out, ← hT, if_pos (decide_eq_true (.inr hB))]⟩)
          · have hf : cg = false := by rw [← hT]; exact decide_eq_false (by omega)
            have he8 : ee = 8 := by rw [← HEE.out, hf]; rfl
            by_cases hC : k < i
            · exact .inr (.inr (.inl ⟨by omega, by omega, by omega, hf, he8⟩))
            · exact .inr (.inr (.inr ⟨by omega, by omega, hf, he8⟩))
      clear HT HEE
      rcases hcase with ⟨q1, q2, rfl, rfl⟩ | ⟨q1, q2, rfl, rfl⟩ | ⟨q1, q2, q3, rfl, rfl⟩ | ⟨q1, q2, rfl, rfl⟩
      all_goals
        go_wp2_with fail
        refine hln7.mono ?_
        rintro e w8 ⟨rfl, rfl⟩
        go_wp2_with fail
        refine (works_calls _).mono ?_
        rintro e w9 ⟨rfl, hb9⟩
        have hbw9 := hbw7.trans (hb9.mono hpw7)
        clear hln7 hbw7 hb9 hpw7
        go_wp2
        go_ret
        first
          | exact ⟨rfl, by rw [HP.out]; exact hbw9⟩
          | exact ⟨(by show Ending.returned (Value.bool (!decide ((k : Int) < 2000) && !decide ((i : Int) < 2000))) = _; rw [decide_eq_false (show ¬ (k : Int) < 2000 by omega), decide_eq_false (show ¬ (i : Int) < 2000 by omega)]; rfl), by rw [HP.out]; exact hbw9⟩
          | exact ⟨(by show Ending.returned (Value.bool (!decide ((i : Int) < 2000))) = _; rw [decide_eq_false (show ¬ (i : Int) < 2000 by omega)]; rfl), by rw [HP.out]; exact hbw9⟩
end Go.Proofs.Ytjcilknfhkpepaa.Bat
