/- dot: DotPlays. -/
import Derived.Test.YtpolfnckbfdhgaaDotL
import Derived.StillTailTactics
namespace Go.Proofs.Ytpolfnckbfdhgaa.Dot
open Go.RowKit Go.Proofs.Ytpolfnckbfdhgaa.Mem Go.Proofs.Ytpolfnckbfdhgaa.SpL Go.Proofs.Ytpolfnckbfdhgaa.X Go.Proofs.YtpolfnckbfdhgaaW.PrintWords Go.Proofs.YtpolfnckbfdhgaaW.PrintLast Go.Proofs.YtpolfnckbfdhgaaW.PrintMore Go.Proofs.Ytpolfnckbfdhgaa.Aid
set_option linter.unusedVariables false
set_option linter.unusedSimpArgs false
theorem text0 (most : Int) : text most ⟨[], false, false⟩ = ([], if most < 0 then 2 else 0) := by
  unfold text
  rw [if_neg (by simp)]
  by_cases h : most < 0
  · rw [if_pos h, if_pos (by simpa using h)]
  · rw [if_neg h, if_neg (by simpa using h)]
set_option maxHeartbeats 4000000 in
set_option maxRecDepth 100000 in
theorem plays_calls (w : World) (A : Option Addr) (c : Nat) (l : List Ln) (most : Int) (hr : Kd.C k31 w A l.length l) (hc : l.length ≤ c) (hT : Tabs w) :
    Calls Try.prog 4 #[.slice A l.length c, .int .i64 most] w fun e w' => e = .returned (.bool true) ∧ Below w.heap.size w w' := by
  go_enter Try.func4, Try.ntmps4
  go_wp2_with fail
  refine (new_calls _ _).mono ?_
  rintro e w1 ⟨rfl, rfl⟩
  have hM0 := MyB.new w most w.heap.size (Nat.le_refl _)
  obtain ⟨b, w1, hb, hw1, hM, hb1⟩ : ∃ b w1, w.heap.size = b ∧ w.alloc (.cells (bcells most (.pointer none) (.slice none 0 0) 0 false false) 61) = w1 ∧ MyB w.heap.size w1 b most ⟨[], false, false⟩ ∧ Below w.heap.size w w1 := ⟨_, _, rfl, rfl, hM0, (Below.refl _ w).alloc (Nat.le_refl _) _⟩
  simp only [hb, hw1]
  clear hb hw1 hM0
  obtain ⟨r, hlight, hcall⟩ := dlight_calls w1 A c l (Kd.C_below hr hb1) hc
  go_wp2_with fail
  refine hcall.mono ?_
  rintro e w2 ⟨rfl, n2, rfl⟩
  clear hcall
  have hM2 := hM.below (pw_below_drewN (Below.refl _ w1) n2)
  have hb2 : Below w.heap.size w (w1.drewN n2) := pw_below_drewN hb1 n2
  obtain ⟨w2, hw2⟩ : ∃ x, w1.drewN n2 = x := ⟨_, rfl⟩
  simp only [hw2] at hM2 hb2 ⊢
  clear hw2 hM hb1
  cases r with
  | false =>
    go_wp2_with fail
    refine (works_calls _ (hT.below hb2)).mono ?_
    rintro e w3 ⟨rfl, hb3⟩
    go_wp2
    go_ret
    exact ⟨rfl, hb2.trans (hb3.mono hb2.size)⟩
  | true =>
    obtain ⟨hl40, hx300⟩ := hlight rfl
    have HX := Lib.hid hx300
    clear hlight hx300
    go_wp2
    go_loopw [6] (fun i wr => ∃ k : Nat, k ≤ l.length ∧ i = .int .i64 k ∧ MyB w.heap.size wr b most (puts (l.take k)) ∧ Below w.heap.size w wr) (fun i _ => l.length - (intOf i).toNat)
    case atStart => exact ⟨0, Nat.zero_le _, rfl, hM2, hb2⟩
    case round =>
      clear hM2 hb2
      obtain ⟨k, hk, rfl, hM, hb⟩ := hrel
      by_cases hlt : k < l.length
      · obtain ⟨ad, hA, hx0, hx1⟩ := at_T31 (Kd.C_below hr hb) (k : Int) (by omega) (by omega)
        rw [rd_nat _ _ hlt] at hx0 hx1
        simp only [Int.toNat_natCast] at hx0 hx1
        have hC1 := Kd.C_take hr (m := k + 1) (by omega)
        subst hA
        have hput : put (puts (l.take k)) l[k].f0 (L l[k].f1) = puts (l.take (k + 1)) := by
          unfold puts
          rw [List.take_succ_eq_append_getElem hlt, List.foldl_append]
          rfl
        have hsz : l[k].f1.size ≤ 300 := HX.out _ (List.getElem_mem hlt)
        have hpl := puts_len (l.take k) (fun x hx => HX.out x (List.mem_of_mem_take hx)) ⟨[], false, false⟩
        have hpl : (puts (l.take k)).T.length ≤ 302 * (l.take k).length := by simpa [puts] using hpl
        have hpl1 := puts_len (l.take (k + 1)) (fun x hx => HX.out x (List.mem_of_mem_take hx)) ⟨[], false, false⟩
        have hpl1 : (puts (l.take (k + 1))).T.length ≤ 302 * (l.take (k + 1)).length := by simpa [puts] using hpl1
        rw [List.length_take] at hpl hpl1
        have hbody := body_ev (l.take (k + 1)) most (by rw [List.length_take]; omega) (fun x hx => HX.out x (List.mem_of_mem_take hx))
        obtain ⟨kb, hkb⟩ := hbody.rounds
        have HK := Lib.hid hkb
        obtain ⟨s, hs⟩ : ∃ s, puts (l.take k) = s := ⟨_, rfl⟩
        obtain ⟨s', hs'⟩ : ∃ s, puts (l.take (k + 1)) = s := ⟨_, rfl⟩
        rw [hs] at hput hpl
        rw [hs'] at hput hpl1
        simp only [hs] at hM
        have HS' := Lib.hid hs'
        obtain ⟨kd, hkd⟩ : ∃ x, l[k].f0 = x := ⟨_, rfl⟩
        obtain ⟨tx, htx⟩ : ∃ x, l[k].f1 = x := ⟨_, rfl⟩
        rw [hkd] at hx0 hput
        rw [htx] at hx1 hsz hput
        have HP := Lib.hid hput
        clear hs hs' hkd htx hput hkb hbody
        go_wp2
        go_still_tail 12, (by kernel_rfl)
        change wpList _ _ _ _ _ wr.drew
        have hM : MyB w.heap.size wr.drew b most s := hM.below (pw_below_drewN (Below.refl _ wr) 1)
        have hb : Below w.heap.size w wr.drew := hb.drew
        generalize wr.drew = w3 at hM hb ⊢
        clear hx0 hx1
        go_wp2_with fail
        refine (put_calls _ b _ most s kd tx hM.1 (by omega)).mono ?_
        rintro e w4 ⟨rfl, hp⟩
        obtain ⟨hM4, hb4⟩ := hM.step hp
        have hP' : put s kd tx.data.toList = s' := HP.out
        simp only [hP'] at hM4 ⊢
        clear hM hp hP'
        have hb := hb.trans hb4
        have hcl : (l.take (k + 1)).length = k + 1 := by rw [List.length_take]; omega
        have hcall : Calls Try.prog 12 #[.slice (some ad) (k + 1) c, .int .i64 most] w4 fun e w' => e = .returned (.tuple #[.string (S (text most s').1), .int .i64 (s'.T.length : Int), .bool s'.ended, .int .i64 (text most s').2]) ∧ Drawn0 w4 w' := by
          have h0 := HK.out
          rw [HS'.out] at h0
          have h := bulletinref29_Body.calls kb (some ad) c (l.take (k + 1)) most _ _ _ _ w4 (Kd.C_below hC1 hb) (by omega) h0
          rw [hcl] at h
          exact h
        have HCL := Lib.hid hcl
        clear hcl
        have hkc : k + 1 ≤ c := by omega
        go_wp2_with fail
        refine hcall.mono ?_
        rintro e w5 ⟨rfl, hd5⟩
        obtain ⟨n5, rfl⟩ := hd5.out
        have hM5 := hM4.below (pw_below_drewN (Below.refl _ w4) n5)
        have hb5 : Below w.heap.size w (w4.drewN n5) := pw_below_drewN hb n5
        obtain ⟨w5, hw5⟩ : ∃ x, w4.drewN n5 = x := ⟨_, rfl⟩
        simp only [hw5] at hM5 hb5 ⊢
        clear hw5 hd5 hcall hM4
        go_wp2_with fail
        refine (text_calls _ b _ most s' hM5.1 (by omega)).mono ?_
        rintro e w6 ⟨rfl, hp⟩
        obtain ⟨hM6, hb6⟩ := hM5.text hp
        have hb6 := hb5.trans hb6
        clear hM5 hp
        obtain ⟨tt, htt⟩ : ∃ t, text most s' = t := ⟨_, rfl⟩
        obtain ⟨t1, t2⟩ := tt
        simp only [htt]
        clear htt
        have hq : (⟨t1.toArray⟩ : ByteArray) = S t1 := rfl
        obtain ⟨tS, htS⟩ : ∃ y, S t1 = y := ⟨_, rfl⟩
        simp only [hq, htS]
        clear hq htS
        obtain ⟨sT, sB, sE⟩ := s'
        simp only at hpl1 ⊢
        obtain ⟨sN, hsN⟩ : ∃ n, sT.length = n := ⟨_, rfl⟩
        have hEE : (sE == sE) = true := beq_iff_eq.mpr rfl
        have hTT : (tS.toList == tS.toList) = true := beq_iff_eq.mpr rfl
        have hCC : (t2 == t2) = true := beq_iff_eq.mpr rfl
        have hNN : ((sN : Int) == (sN : Int)) = true := beq_iff_eq.mpr rfl
        have HN := Lib.hid hsN
        simp only [hsN] at hpl1 ⊢
        clear hsN
        cases sE with
        | false =>
          go_wp2_with fail
          refine (ended_calls _ b _ most _ hM6.1).mono ?_
          rintro e w7 ⟨rfl, rfl⟩
          go_wp2_with fail
          refine (size_calls _ b _ most _ hM6.1).mono ?_
          rintro e w7 ⟨rfl, rfl⟩
          simp only [HN.out]
          go_wp2
          go_roundw
          case rel => exact ⟨k + 1, by omega, by go_num, by rw [HS'.out]; exact hM6, hb6⟩
          case measure => simp [intOf]; omega
        | true =>
          go_wp2_with fail
          refine (ended_calls _ b _ most _ hM6.1).mono ?_
          rintro e w7 ⟨rfl, rfl⟩
          go_wp2_with fail
          refine (size_calls _ b _ most _ hM6.1).mono ?_
          rintro e w7 ⟨rfl, rfl⟩
          simp only [HN.out]
          go_wp2
          go_roundw
          case rel => exact ⟨k + 1, by omega, by go_num, by rw [HS'.out]; exact hM6, hb6⟩
          case measure => simp [intOf]; omega
      · go_wp2_with fail
        refine (new_calls _ _).mono ?_
        rintro e w3 ⟨rfl, rfl⟩
        have hM0 := MyB.new wr most w.heap.size hb.size
        obtain ⟨b3, w3, hb3e, hw3, hM3, hb3⟩ : ∃ b3 w3, wr.heap.size = b3 ∧ wr.alloc (.cells (bcells most (.pointer none) (.slice none 0 0) 0 false false) 61) = w3 ∧ MyB w.heap.size w3 b3 most ⟨[], false, false⟩ ∧ Below w.heap.size w w3 := ⟨_, _, rfl, rfl, hM0, hb.alloc hb.size _⟩
        simp only [hb3e, hw3]
        clear hb3e hw3 hM0
        go_wp2_with fail
        refine (text_calls _ b3 _ most _ hM3.1 (by decide)).mono ?_
        rintro e w6 ⟨rfl, hp⟩
        obtain ⟨hM6, hb6⟩ := hM3.text hp
        have hb6 := hb3.trans hb6
        simp only [text0]
        clear hM3 hp hM6 hM hb hlt
        by_cases hm : most < 0
        · have hd : decide (0 ≤ most) = false := decide_eq_false (by omega)
          rw [if_pos hm]
          go_wp2_with fail
          refine (works_calls _ (hT.below hb6)).mono ?_
          rintro e w7 ⟨rfl, hb7⟩
          go_wp2
          go_ret
          exact ⟨rfl, hb6.trans (hb7.mono hb6.size)⟩
        · have hd : decide (0 ≤ most) = true := decide_eq_true (by omega)
          rw [if_neg hm]
          go_wp2_with fail
          refine (works_calls _ (hT.below hb6)).mono ?_
          rintro e w7 ⟨rfl, hb7⟩
          go_wp2
          go_ret
          exact ⟨rfl, hb6.trans (hb7.mono hb6.size)⟩
end Go.Proofs.Ytpolfnckbfdhgaa.Dot
