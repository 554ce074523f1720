/- Written and read: the plain law of VerbBack. -/
import Derived.Test.YtaamnpomclenpaaDoorVerbQ
import Derived.Test.YtaamnpomclenpaaDoorVerbBW
namespace Go.Proofs.YtaamnpomclenpaaDoor.Verb
open Go.RowKit Go.Proofs.YtaamnpomclenpaaDoor.X Go.Proofs.YtaamnpomclenpaaDoorW.PrintWords Go.Proofs.YtaamnpomclenpaaDoorW.PrintLast Go.Proofs.YtaamnpomclenpaaDoorW.PrintMore Go.Proofs.YtaamnpomclenpaaDoor.Aid Go.Proofs.YtaamnpomclenpaaDoor.Glyph
open Go.Lib (cut trimB trimLeftB trimRightB)
open Go.Proofs.YtaamnpomclenpaaDoor.VBack (lo low4 VB)
set_option linter.unusedVariables false
set_option linter.unusedSimpArgs false

theorem trR_sub (l : List UInt8) : (trimRightB l 32).Sublist l := by
  unfold trimRightB
  have := (List.dropWhile_sublist (l := l.reverse) (· == 32)).reverse
  rwa [List.reverse_reverse] at this
theorem tr_sub (l : List UInt8) : (tr l).Sublist l := by
  unfold tr trimB trimLeftB
  exact (List.dropWhile_sublist _).trans (trR_sub l)
theorem trR_id (b : List UInt8) (h : tr b = b) : trimRightB b 32 = b := by
  refine (trR_sub b).eq_of_length ?_
  have h1 := (trR_sub b).length_le
  have h2 : (tr b).length ≤ (trimRightB b 32).length := by
    unfold tr trimB trimLeftB
    exact (List.dropWhile_sublist _).length_le
  rw [h] at h2
  omega
theorem trR_app (x b : List UInt8) (h : trimRightB b 32 = b) (hb : b ≠ []) : trimRightB (x ++ b) 32 = x ++ b := by
  obtain ⟨y, c, rfl⟩ : ∃ y c, b = y ++ [c] := ⟨b.dropLast, b.getLast hb, (List.dropLast_concat_getLast hb).symm⟩
  rw [trR_snoc] at h
  have hc : c ≠ 32 := by
    intro e
    rw [if_pos e] at h
    have := congrArg List.length h
    have := (trR_sub y).length_le
    simp at *
    omega
  rw [← List.append_assoc, trR_snoc, if_neg hc]
theorem tr_snoc (l : List UInt8) : tr (l ++ [32]) = tr l := by
  unfold tr trimB
  rw [trR_snoc, if_pos rfl]
theorem tr_front (v : Nat) (b : List UInt8) (h : tr b = b) (hb : b ≠ []) : tr (frL v ++ b) = frL v ++ b := by
  have h1 := trR_id b h
  unfold frL
  split
  · show tr (70 :: ([82, 79, 77, 58] ++ b)) = _
    rw [tr_other _ _ (by decide), trR_app _ _ h1 hb]
    rfl
  · split
    · show tr (84 :: ([79, 58] ++ b)) = _
      rw [tr_other _ _ (by decide), trR_app _ _ h1 hb]
      rfl
    · exact h
theorem kn_lw : ∀ v, v < 10 → 1 ≤ v → kn 10 (lw v) = v := by decide +kernel
theorem fr_plain (v : Nat) : plb (frL v) = true := by
  unfold frL
  split
  · decide
  · split <;> decide
theorem plb_app (x y : List UInt8) : plb (x ++ y) = (plb x && plb y) := by
  unfold plb
  exact List.all_append
def bad (v : Nat) (b : List UInt8) : Prop := (b = [] ∧ needs v = true) ∨ (b ≠ [] ∧ bans v = true)
theorem rest_ok (v : Nat) (b : List UInt8) (hr : ¬ bad v b) : rest v b = ((v : Int), b, 0) := if_neg hr
theorem needs_fr (v : Nat) (h : ¬ needs v = true) : frL v = [] := by
  have : ¬ v ≤ 4 := by
    intro q
    apply h
    unfold needs
    rw [decide_eq_true q]; rfl
  unfold frL
  rw [if_neg (by omega), if_neg (by omega)]
theorem rd_text (v : Nat) (b u sfx : List UInt8) (hs : sfx = [] ∨ sfx = [32, 32]) (h1 : 1 ≤ v) (h9 : v ≤ 9) (hu : ∀ c ∈ u, c ≠ 32) (hpu : plb u = true) (hf : foldL u = lw v) (hpb : plb b = true) (htb : tr b = b) (hr : ¬ bad v b) :
    rdL ((u ++ (if b = [] then [] else 32 :: (frL v ++ b))) ++ sfx) = ((v : Int), b, 0) := by
  have hp : ∀ c ∈ u, (!(c == 32)) = true := fun c hc => (by simpa using hu c hc)
  have hps : plb sfx = true := by rcases hs with rfl | rfl <;> decide
  obtain ⟨z, hz, hz1, hz2⟩ : ∃ z, (if b = [] then [] else 32 :: (frL v ++ b)) ++ sfx = z ∧ z.takeWhile (fun c => !(c == 32)) = [] ∧ tr ((z.dropWhile (fun c => !(c == 32))).drop 1) = (if b = [] then [] else frL v ++ b) := by
    refine ⟨_, rfl, ?_, ?_⟩
    · by_cases hb : b = []
      · rw [if_pos hb]; rcases hs with rfl | rfl <;> rfl
      · rw [if_neg hb]; rfl
    · by_cases hb : b = []
      · rw [if_pos hb, if_pos hb]; rcases hs with rfl | rfl <;> rfl
      · rw [if_neg hb, if_neg hb]
        show tr ((frL v ++ b) ++ sfx) = _
        rcases hs with rfl | rfl
        · rw [List.append_nil]; exact tr_front v b htb hb
        · rw [show (frL v ++ b) ++ [32, 32] = ((frL v ++ b) ++ [32]) ++ [32] from by simp, tr_snoc, tr_snoc]; exact tr_front v b htb hb
  have hpz : plb z = true := by
    rw [← hz, plb_app, hps, Bool.and_true]
    split
    · rfl
    · show (decide (32 ≤ (32 : UInt8).toNat ∧ (32 : UInt8).toNat ≤ 126) && plb (frL v ++ b)) = true
      rw [plb_app, fr_plain, hpb]
      rfl
  rw [List.append_assoc, hz]
  unfold rdL
  have e1 : wd (u ++ z) = u := by
    unfold wd
    rw [List.takeWhile_append_of_pos hp, hz1, List.append_nil]
  have e2 : be (u ++ z) = (z.dropWhile (fun c => !(c == 32))).drop 1 := by
    unfold be
    rw [List.dropWhile_append_of_pos hp]
  rw [e1, e2, hz2, hf, kn_lw v (by omega) h1, plb_app, hpu, hpz]
  unfold rdV
  rw [if_neg (by omega), if_pos (show (true && true) = true from rfl)]
  by_cases hb : b = []
  · have hn : frL v = [] := needs_fr v (fun q => hr (Or.inl ⟨hb, q⟩))
    rw [if_pos hb, hn, if_pos ⟨by simp, rfl⟩]
    show rest v [] = _
    rw [← hb]
    exact rest_ok v b hr
  · rw [if_neg hb, if_pos ⟨by simp, by rw [List.take_left]⟩, List.drop_left, htb]
    exact rest_ok v b hr
theorem rd_inv (l : List UInt8) : (∃ n : Int, n ≠ 0 ∧ rdL l = (0, [], n)) ∨ ∃ (v : Nat) (b : List UInt8), rdL l = ((v : Int), b, 0) ∧ 1 ≤ v ∧ v ≤ 9 ∧ plb b = true ∧ tr b = b ∧ ¬ bad v b ∧ b.length ≤ l.length := by
  unfold rdL rdV
  have hk := kn_le (foldL (wd l)) 10 (by omega)
  generalize kn 10 (foldL (wd l)) = v at *
  by_cases h0 : v = 0
  · exact Or.inl ⟨270, by decide, by rw [if_pos h0]⟩
  rw [if_neg h0]
  by_cases hp : plb l = true
  case neg => exact Or.inl ⟨3, by decide, by rw [if_neg hp]⟩
  rw [if_pos hp]
  by_cases hf : (frL v).length ≤ (tr (be l)).length ∧ foldL ((tr (be l)).take (frL v).length) = foldL (frL v)
  case neg => exact Or.inl ⟨3, by decide, by rw [if_neg hf]⟩
  rw [if_pos hf]
  unfold rest
  by_cases hb : bad v (tr ((tr (be l)).drop (frL v).length))
  · exact Or.inl ⟨3, by decide, if_pos hb⟩
  · have hsub : (tr ((tr (be l)).drop (frL v).length)).Sublist l := by
      refine (tr_sub _).trans ((List.drop_sublist _ _).trans ((tr_sub _).trans ?_))
      unfold be
      exact (List.drop_sublist _ _).trans (List.dropWhile_sublist _)
    refine Or.inr ⟨v, _, if_neg hb, by omega, by omega, ?_, tr_tr _, hb, hsub.length_le⟩
    unfold plb at hp ⊢
    rw [List.all_eq_true] at hp ⊢
    exact fun c hc => hp c (hsub.subset hc)
def lower (u : List UInt8) : List UInt8 := u.map (fun c => c - 65 + 97)
theorem words_ok : ∀ v, v < 10 → 1 ≤ v → (L (wordOf v)).length = 4 ∧ ((L (wordOf v)).all (fun c => decide (c ≠ 32)) && (lower (L (wordOf v))).all (fun c => decide (c ≠ 32))) = true ∧ plb (L (wordOf v)) = true ∧ plb (lower (L (wordOf v))) = true ∧ foldL (L (wordOf v)) = lw v ∧ foldL (lower (L (wordOf v))) = lw v := by decide +kernel
theorem back_ev (a0 : ByteArray) (h0 : a0.size ≤ 140737488351232) : Ev (fun k => bulletinlaw27_VerbBack.f k a0) true := by
  have fin : (∃ K, ∀ k, K ≤ k → VB k a0) → Ev (fun k => bulletinlaw27_VerbBack.f k a0) true := fun ⟨K, h⟩ => ⟨K, fun k hk => (by
    show bulletinlaw27_VerbBack.f k a0 = some true
    unfold bulletinlaw27_VerbBack.f
    rw [if_pos (h k hk)])⟩
  apply fin
  obtain ⟨K0, k0⟩ := works_ev
  by_cases c1 : 1200 < a0.size
  · exact ⟨K0, fun k hk => ⟨k0 k hk, Or.inl c1⟩⟩
  have s0 : (L a0).length ≤ 1200 := by rw [← sz]; omega
  obtain ⟨K1, k1⟩ := read_ev a0 (by omega)
  rcases rd_inv (L a0) with ⟨n, hn, e⟩ | ⟨v, b, e, h1, h9, hpb, htb, hr, hbl⟩
  · refine ⟨K0 + K1, fun k hk => ⟨k0 k (by omega), Or.inr ⟨by omega, Or.inl ⟨n, hn, ?_⟩⟩⟩⟩
    have := k1 k (by omega)
    rw [e] at this
    exact this
  · obtain ⟨w4, wn, wp, wp', wf, wf'⟩ := words_ok v (by omega) h1
    rw [Bool.and_eq_true, List.all_eq_true, List.all_eq_true] at wn
    have n1 : ∀ c ∈ L (wordOf v), c ≠ 32 := fun c hc => (by simpa using wn.1 c hc)
    have n2 : ∀ c ∈ lower (L (wordOf v)), c ≠ 32 := fun c hc => (by simpa using wn.2 c hc)
    have et : txL (v : Int) b = L (wordOf v) ++ (if b = [] then [] else 32 :: (frL v ++ b)) := by
      unfold txL
      rw [if_neg (by omega)]
      by_cases hb : b = []
      · rw [if_pos hb, if_pos hb, Int.toNat_natCast, List.append_nil]
      · rw [if_neg hb, if_neg hb, Int.toNat_natCast]
        simp
    have hfl := frL_len v
    have htl : 4 ≤ (txL (v : Int) b).length ∧ (txL (v : Int) b).length ≤ 2000 := by
      rw [et, List.length_append, w4]
      constructor
      · omega
      · split
        · simp
        · simp; omega
    have t1 := rd_text v b (L (wordOf v)) [] (Or.inl rfl) h1 h9 n1 wp wf hpb htb hr
    rw [List.append_nil, ← et] at t1
    have t2 := rd_text v b (L (wordOf v)) [32, 32] (Or.inr rfl) h1 h9 n1 wp wf hpb htb hr
    rw [← et] at t2
    have t3 := rd_text v b (lower (L (wordOf v))) [] (Or.inl rfl) h1 h9 n2 wp' wf' hpb htb hr
    rw [List.append_nil] at t3
    have elo : lo (S (txL (v : Int) b)) = lower (L (wordOf v)) ++ (if b = [] then [] else 32 :: (frL v ++ b)) := by
      unfold lo
      have e1 : (S (txL (v : Int) b)).data.toList = txL (v : Int) b := L_S _
      rw [e1, et, List.take_left' w4, List.drop_left' w4]
      rfl
    obtain ⟨K2, k2⟩ := read_ev (S (txL (v : Int) b)) (by rw [L_S]; omega)
    obtain ⟨K3, k3⟩ := read_ev (S (txL (v : Int) b) ++ (⟨#[32, 32]⟩ : ByteArray)) (by rw [L_app, L_S, List.length_append]; show _ + 2 ≤ _; omega)
    obtain ⟨K4, k4⟩ := read_ev (low4 (S (txL (v : Int) b))) (by
      show (L (S (lo _))).length ≤ _
      rw [L_S, VBack.lo_len, sz, L_S]; omega)
    refine ⟨K0 + K1 + K2 + K3 + K4, fun k hk => ⟨k0 k (by omega), Or.inr ⟨by omega, Or.inr ⟨(v : Int), S b, S (txL (v : Int) b), ?_, ?_, ?_, ?_, ?_, ?_, ?_⟩⟩⟩⟩
    · have := k1 k (by omega)
      rw [e] at this
      exact this
    · have := text_eq (v : Int) (S b) (by rw [L_S]; omega)
      rw [L_S] at this
      exact this
    · rw [sz, L_S]; omega
    · rw [sz, L_S]; omega
    · have := k2 k (by omega)
      rw [L_S, t1] at this
      exact this
    · have := k3 k (by omega)
      rw [L_app, L_S, show L (⟨#[32, 32]⟩ : ByteArray) = [32, 32] from rfl, t2] at this
      exact this
    · have := k4 k (by omega)
      rw [show L (low4 (S (txL (v : Int) b))) = lo (S (txL (v : Int) b)) from L_S _, elo, t3] at this
      exact this
end Go.Proofs.YtaamnpomclenpaaDoor.Verb
