/- dot: the chapter's example; DotStuffs. -/
import Derived.Test.YtpolfnckbfdhgaaDotB
import Derived.Test.YtpolfnckbfdhgaaDotS
import Derived.Test.YtpolfnckbfdhgaaDotR
namespace Go.Proofs.Ytpolfnckbfdhgaa.Dot
open Go.RowKit Go.Proofs.Ytpolfnckbfdhgaa.Mem Go.Proofs.Ytpolfnckbfdhgaa.SpL Go.Proofs.Ytpolfnckbfdhgaa.X Go.Proofs.YtpolfnckbfdhgaaW.PrintWords Go.Proofs.YtpolfnckbfdhgaaW.PrintLast Go.Proofs.YtpolfnckbfdhgaaW.PrintMore Go.Proofs.Ytpolfnckbfdhgaa.Aid
set_option linter.unusedVariables false
set_option linter.unusedSimpArgs false
/-- a body of the call's own -/
def MyB (B : Nat) (w : World) (b : Nat) (most : Int) (s : St) : Prop := Bd w b (mine B w) most s ∧ B ≤ w.heap.size
theorem MyB.step {B : Nat} {w w' : World} {b : Nat} {most : Int} {s s' : St} (h : MyB B w b most s) (hp : PutPost w b (mine B w) most s' w') : MyB B w' b most s' ∧ Below B w w' :=
  ⟨⟨hp.1.mono (mine_ext (fun _ h => h) h.2 hp.2.size) mine_lt, Nat.le_trans h.2 hp.2.size⟩, hp.2.to_below h.2 fun _ h => h.1⟩
theorem MyB.text {B : Nat} {w w' : World} {b : Nat} {most : Int} {s s' : St} (h : MyB B w b most s) (hp : Bd w' b (mine B w) most s' ∧ Only (mine B w) w w') : MyB B w' b most s' ∧ Below B w w' :=
  ⟨⟨hp.1.mono (mine_more hp.2.size) mine_lt, Nat.le_trans h.2 hp.2.size⟩, hp.2.to_below h.2 fun _ h => h.1⟩
theorem MyB.below {B : Nat} {w w' : World} {b : Nat} {most : Int} {s : St} (h : MyB B w b most s) (hb : Below w.heap.size w w') : MyB B w' b most s :=
  ⟨(h.1.below hb).mono (mine_more hb.size) mine_lt, Nat.le_trans h.2 hb.size⟩
theorem MyB.new (w : World) (most : Int) (B : Nat) (hB : B ≤ w.heap.size) : MyB B (w.alloc (.cells (bcells most (.pointer none) (.slice none 0 0) 0 false false) 61)) w.heap.size most ⟨[], false, false⟩ :=
  ⟨(bd_new w most).mono (fun k hk => ⟨by omega, by rw [hk]; simp⟩) mine_lt, by simp; omega⟩
theorem put_a : put (put ⟨[], false, false⟩ 1 [46, 46, 97]) 1 [46] = ⟨[46, 97, 13, 10], false, true⟩ ∧ (put ⟨[], false, false⟩ 1 [46, 46, 97]) = ⟨[46, 97, 13, 10], false, false⟩ := by
  unfold put trim Lib.trimPrefix Lib.hasPrefix
  simp [List.isPrefixOf]
theorem stuff_a : stuffL [46, 97] = [46, 46, 97, 13, 10, 46, 13, 10] := by
  simp [stuffL, full, sp, dotl, Lib.hasPrefix, List.isPrefixOf]
set_option maxHeartbeats 1000000 in
set_option maxRecDepth 100000 in
theorem works_calls (w : World) (hT : Tabs w) :
    Calls Try.prog 6 #[] w fun e w' => e = .returned (.bool true) ∧ Below w.heap.size w w' := by
  go_enter Try.func6, Try.ntmps6
  go_wp2_with fail
  refine (new_calls _ _).mono ?_
  rintro e w1 ⟨rfl, rfl⟩
  have hM0 := MyB.new w 10 w.heap.size (Nat.le_refl _)
  obtain ⟨b, w1, hb, hw1, hM, hb1⟩ : ∃ b w1, w.heap.size = b ∧ w.alloc (.cells (bcells 10 (.pointer none) (.slice none 0 0) 0 false false) 61) = w1 ∧ MyB b w1 b 10 ⟨[], false, false⟩ ∧ Below b w w1 := ⟨_, _, rfl, rfl, hM0, (Below.refl _ w).alloc (Nat.le_refl _) _⟩
  have hTb : ∀ w', Below b w w' → Tabs w' := fun w' h => hT.below (by rw [hb]; exact h)
  simp only [hb, hw1]
  have HB := Lib.hid hb
  clear hb hw1 hM0
  go_wp2_with fail
  refine (put_calls _ b _ 10 _ 1 ⟨#[46, 46, 97]⟩ hM.1 (by decide)).mono ?_
  rintro e w2 ⟨rfl, hp⟩
  obtain ⟨hM2, hb2⟩ := hM.step hp
  have e1 : put ⟨[], false, false⟩ 1 (⟨#[46, 46, 97]⟩ : ByteArray).data.toList = ⟨[46, 97, 13, 10], false, false⟩ := put_a.2
  simp only [e1] at hM2 ⊢
  clear hM hp
  go_wp2_with fail
  refine (put_calls _ b _ 10 _ 1 ⟨#[46]⟩ hM2.1 (by decide)).mono ?_
  rintro e w3 ⟨rfl, hp⟩
  obtain ⟨hM3, hb3⟩ := hM2.step hp
  have e2 : put ⟨[46, 97, 13, 10], false, false⟩ 1 (⟨#[46]⟩ : ByteArray).data.toList = ⟨[46, 97, 13, 10], false, true⟩ := by rw [← put_a.1, put_a.2]
  simp only [e2] at hM3 ⊢
  clear hM2 hp
  go_wp2_with fail
  refine (text_calls _ b _ 10 _ hM3.1 (by decide)).mono ?_
  rintro e w4 ⟨rfl, hp⟩
  obtain ⟨hM4, hb4⟩ := hM3.text hp
  have e3 : text 10 ⟨[46, 97, 13, 10], false, true⟩ = ([46, 97, 13, 10], 0) := by unfold text; rw [if_neg (by simp), if_neg (by simp)]
  simp only [e3]
  clear hM3 hp
  have hb5 := ((hb1.trans hb2).trans hb3).trans hb4
  go_wp2_with fail
  refine (stuff_calls _ (⟨#[46, 97]⟩ : ByteArray) (by decide) (hTb _ hb5)).mono ?_
  rintro e w5 ⟨rfl, hb6⟩
  have e4 : S (stuffL (L (⟨#[46, 97]⟩ : ByteArray))) = (⟨#[46, 46, 97, 13, 10, 46, 13, 10]⟩ : ByteArray) := by
    have : stuffL (L (⟨#[46, 97]⟩ : ByteArray)) = [46, 46, 97, 13, 10, 46, 13, 10] := stuff_a
    rw [this]; rfl
  simp only [e4]
  have hb7 := hb5.trans (hb6.mono hM4.2)
  go_wp2
  go_ret
  exact ⟨rfl, by rw [HB.out]; exact hb7⟩
set_option maxHeartbeats 1000000 in
set_option maxRecDepth 100000 in
theorem stuffs_calls (w : World) (s : ByteArray) (hs : s.size ≤ 140737488351232) (hT : Tabs w) :
    Calls Try.prog 3 #[.string s] w fun e w' => e = .returned (.bool true) ∧ Below w.heap.size w w' := by
  go_enter Try.func3, Try.ntmps3
  by_cases hz : s.size > 2000
  · have hd : decide (2000 < (s.size : Int)) = true := decide_eq_true (by omega)
    go_wp2_with fail
    refine (works_calls _ hT).mono ?_
    rintro e w1 ⟨rfl, hb1⟩
    go_wp2
    go_ret
    exact ⟨rfl, hb1⟩
  · have hd : decide (2000 < (s.size : Int)) = false := decide_eq_false (by omega)
    have hl : (L s).length ≤ 2000 := by rw [← sz]; omega
    obtain ⟨k, hk⟩ := (stuff_ev s hl).rounds
    have HK := Lib.hid hk
    clear hk
    go_wp2_with fail
    refine (stuff_calls _ s hl hT).mono ?_
    rintro e w1 ⟨rfl, hb1⟩
    go_wp2_with fail
    refine (bulletinref29_Stuff.calls k s _ _ HK.out).mono ?_
    rintro e w2 ⟨rfl, hb2⟩
    have hb3 := hb1.trans (hb2.mono hb1.size)
    have hbb : ((S (stuffL (L s))).toList == (S (stuffL (L s))).toList) = true := beq_iff_eq.mpr rfl
    go_wp2_with fail
    refine (works_calls _ (hT.below hb3)).mono ?_
    rintro e w3 ⟨rfl, hb4⟩
    go_wp2
    go_ret
    exact ⟨rfl, hb3.trans (hb4.mono hb3.size)⟩
end Go.Proofs.Ytpolfnckbfdhgaa.Dot
