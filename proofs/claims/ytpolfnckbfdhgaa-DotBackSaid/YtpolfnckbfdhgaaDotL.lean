/- dot: the statements' own 'light', and the document's body: what the printed functions tell. -/
import Derived.Test.YtpolfnckbfdhgaaDotW
namespace Go.Proofs.Ytpolfnckbfdhgaa.Dot
open Go.RowKit Go.Proofs.Ytpolfnckbfdhgaa.Mem Go.Proofs.Ytpolfnckbfdhgaa.SpL Go.Proofs.Ytpolfnckbfdhgaa.X Go.Proofs.YtpolfnckbfdhgaaW.PrintWords Go.Proofs.YtpolfnckbfdhgaaW.PrintLast Go.Proofs.YtpolfnckbfdhgaaW.PrintMore Go.Proofs.Ytpolfnckbfdhgaa.Aid
set_option linter.unusedVariables false
set_option linter.unusedSimpArgs false
abbrev Ln := S31
theorem rd_nat (xs : List Ln) (i : Nat) (h : i < xs.length) : rd_T31 xs (i : Int) = xs[i] := by
  show xs.getD (i : Int).toNat _ = _
  rw [Int.toNat_natCast, List.getD_eq_getElem?_getD, List.getElem?_eq_getElem h]
  rfl
theorem dlight_l0 (l : List Ln) (hq : l.length ≤ 9223372036854775807) (d : Nat) : ∀ i : Nat, i ≤ l.length → i ≤ 40 → 40 - i = d → (∀ j (hj : j < l.length), j < i → (l[j]).f1.size ≤ 300) →
    ∃ r, Ev (fun k => bulletinlaw29_light.l0 k l (i : Int)) r ∧ (r = true → l.length ≤ 40 ∧ ∀ s ∈ l, s.f1.size ≤ 300) := by
  have stop : ∀ i : Nat, i ≤ l.length → (¬ i < l.length ∨ i = 40) → (∀ j (hj : j < l.length), j < i → (l[j]).f1.size ≤ 300) → ∃ r, Ev (fun k => bulletinlaw29_light.j1 k l (i : Int) false) r ∧ (r = true → l.length ≤ 40 ∧ ∀ s ∈ l, s.f1.size ≤ 300) := by
    intro i hi h hall
    refine ⟨decide ((l.length : Int) ≤ 40), up ?_, ?_⟩
    · simp only [bulletinlaw29_light.j1]
      exact neg (by simp) (Ev.now _)
    · intro qq
      have qq := of_decide_eq_true qq
      refine ⟨by omega, fun s hs => ?_⟩
      obtain ⟨j, hj, rfl⟩ := List.getElem_of_mem hs
      exact hall j hj (by omega)
  induction d with
  | zero =>
    intro i hi h13 hd hall
    obtain ⟨r, h1, h2⟩ := stop i hi (Or.inr (by omega)) hall
    refine ⟨r, up ?_, h2⟩
    simp only [bulletinlaw29_light.l0]
    rw [decide_eq_false (show ¬ (i : Int) < 40 by omega)]
    exact ite_ev (fun _ => h1) (fun _ => h1)
  | succ d ih =>
    intro i hi h13 hd hall
    by_cases hlt : i < l.length
    · by_cases hs : l[i].f1.size ≤ 300
      · obtain ⟨r, h1, h2⟩ := ih (i + 1) (by omega) (by omega) (by omega) (fun j hj hji => (by
          by_cases e : j = i
          · subst e; exact hs
          · exact hall j hj (by omega)))
        refine ⟨r, up ?_, h2⟩
        simp only [bulletinlaw29_light.l0]
        rw [decide_eq_true (show (i : Int) < 40 by omega)]
        refine pos (by omega) (up ?_)
        simp only [bulletinlaw29_light.j1]
        refine pos (by trivial) (pos (by omega) (pos (by omega) ?_))
        rw [rd_nat _ _ hlt, wi i (by omega)]
        exact neg (by omega) h1
      · refine ⟨false, up ?_, fun qq => (by cases qq)⟩
        simp only [bulletinlaw29_light.l0]
        rw [decide_eq_true (show (i : Int) < 40 by omega)]
        refine pos (by omega) (up ?_)
        simp only [bulletinlaw29_light.j1]
        refine pos (by trivial) (pos (by omega) (pos (by omega) ?_))
        rw [rd_nat _ _ hlt]
        exact pos (by omega) (Ev.now _)
    · obtain ⟨r, h1, h2⟩ := stop i hi (Or.inl hlt) hall
      refine ⟨r, up ?_, h2⟩
      simp only [bulletinlaw29_light.l0]
      exact neg (by omega) h1
theorem dlight_calls (w : World) (A : Option Addr) (c : Nat) (l : List Ln) (hr : Kd.C k31 w A l.length l) (hc : l.length ≤ c) :
    ∃ r : Bool, (r = true → l.length ≤ 40 ∧ ∀ s ∈ l, s.f1.size ≤ 300) ∧ Calls Try.prog 10 #[.slice A l.length c] w fun e w' => e = .returned (.bool r) ∧ ∃ n, w' = w.drewN n := by
  obtain ⟨r, h1, h2⟩ := dlight_l0 l hr.2.1 40 0 (by omega) (by omega) (by omega) (fun j hj h => (by omega))
  obtain ⟨k, hk⟩ := Ev.rounds h1
  exact ⟨r, h2, (bulletinlaw29_light.calls k A c l r w hr hc hk).mono fun e w' ⟨h, hd⟩ => ⟨h, hd.out⟩⟩
def putL (s : St) (x : Ln) : St := put s x.f0 (L x.f1)
def puts (l : List Ln) : St := l.foldl putL ⟨[], false, false⟩
theorem put_ended (s : St) (h : s.ended = true) (x : Ln) : putL s x = s := by unfold putL put; rw [if_pos h]
theorem fold_ended (l : List Ln) (s : St) (h : s.ended = true) : l.foldl putL s = s := by
  induction l with
  | nil => rfl
  | cons x l ih => rw [List.foldl_cons, put_ended s h, ih]
theorem put_len (s : St) (x : Ln) : (putL s x).T.length ≤ s.T.length + x.f1.size + 2 := by
  unfold putL put trim Lib.trimPrefix
  have := sz x.f1
  repeat' split
  all_goals ((try simp only [List.length_append, List.length_cons, List.length_nil, List.length_drop]); omega)
theorem puts_len (l : List Ln) (h : ∀ x ∈ l, x.f1.size ≤ 300) : ∀ s : St, (l.foldl putL s).T.length ≤ s.T.length + 302 * l.length := by
  induction l with
  | nil => intro s; simp
  | cons x l ih =>
    intro s
    rw [List.foldl_cons]
    have h1 := ih (fun y hy => h y (List.mem_cons_of_mem _ hy)) (putL s x)
    have h2 := put_len s x
    have h3 := h x (List.mem_cons_self ..)
    simp only [List.length_cons]
    omega
def resB (most : Int) (s : St) : ByteArray × Int × Bool × Int := (S (text most s).1, (s.T.length : Int), s.ended, (text most s).2)
theorem body_stop (l : List Ln) (most : Int) (s : St) (i : Int) : Ev (fun k => bulletinref29_Body.j1 k l most (S s.T) s.bad s.ended i false) (resB most s) := by
  refine up ?_
  simp only [bulletinref29_Body.j1]
  refine neg (by simp) ?_
  have hz := zS s.T
  rw [hz]
  by_cases hb : s.bad = true
  · have e : resB most s = ((⟨#[]⟩ : ByteArray), (s.T.length : Int), s.ended, 480) := by unfold resB text; rw [if_pos hb]; rfl
    rw [e]
    exact pos hb (Ev.now _)
  · refine neg hb ?_
    by_cases hm : most < (s.T.length : Int)
    · have e : resB most s = ((⟨#[]⟩ : ByteArray), (s.T.length : Int), s.ended, 2) := by unfold resB text; rw [if_neg hb, if_pos hm]; rfl
      rw [e]
      exact pos hm (Ev.now _)
    · have e : resB most s = (S s.T, (s.T.length : Int), s.ended, 0) := by unfold resB text; rw [if_neg hb, if_neg hm]
      rw [e]
      exact neg hm (Ev.now _)
theorem body_l0 (l : List Ln) (most : Int) (hl : l.length ≤ 40) (hx : ∀ x ∈ l, x.f1.size ≤ 300) (d : Nat) : ∀ (i : Nat) (s : St), i ≤ l.length → l.length - i ≤ d → s.T.length ≤ i * 400 →
    Ev (fun k => bulletinref29_Body.l0 k l most (S s.T) s.bad s.ended (i : Int)) (resB most ((l.drop i).foldl putL s)) := by
  induction d with
  | zero =>
    intro i s hi hd ht
    refine up ?_
    simp only [bulletinref29_Body.l0]
    refine neg (by omega) ?_
    rw [List.drop_eq_nil_of_le (by omega)]
    exact body_stop l most s _
  | succ d ih =>
    intro i s hi hd ht
    by_cases hil : i < l.length
    case neg =>
      refine up ?_
      simp only [bulletinref29_Body.l0]
      refine neg (by omega) ?_
      rw [List.drop_eq_nil_of_le (by omega)]
      exact body_stop l most s _
    refine up ?_
    simp only [bulletinref29_Body.l0]
    refine pos (by omega) ?_
    cases he : s.ended with
    | true =>
      rw [fold_ended _ s he]
      have h := body_stop l most s (i : Int)
      rw [he] at h
      exact h
    | false =>
      have hxi := hx _ (List.getElem_mem hil)
      have hpl := put_len s l[i]
      have hdr : (l.drop i).foldl putL s = (l.drop (i + 1)).foldl putL (putL s l[i]) := by rw [List.drop_eq_getElem_cons hil]; rfl
      have hnext := ih (i + 1) (putL s l[i]) (by omega) (by omega) (by omega)
      rw [hdr]
      refine up ?_
      simp only [bulletinref29_Body.j1]
      refine pos (by trivial) (pos (by omega) (pos (by omega) ?_))
      rw [rd_nat _ _ hil, wi i (by omega)]
      have ss := sz l[i].f1
      have hz := zS s.T
      have hts : s.T.length ≤ 16000 := by omega
      by_cases hk : l[i].f0 = 1
      case neg =>
        refine neg hk ?_
        have e : putL s l[i] = ⟨s.T, true, s.ended⟩ := by unfold putL put; rw [if_neg (by simp [he]), if_pos hk]
        rw [e] at hnext ⊢
        simp only [he] at hnext ⊢
        exact hnext
      refine pos hk ?_
      by_cases h46 : L l[i].f1 = [46]
      · refine pos (by rw [tl]; exact h46) ?_
        have e : putL s l[i] = ⟨s.T, s.bad, true⟩ := by unfold putL put; rw [if_neg (by simp [he]), if_neg (by simp [hk]), if_pos h46]
        rw [e] at hnext ⊢
        exact hnext
      refine neg (by rw [tl]; exact h46) ?_
      have e : putL s l[i] = ⟨s.T ++ (trim (L l[i].f1) ++ [13, 10]), s.bad, s.ended⟩ := by unfold putL put; rw [if_neg (by simp [he]), if_neg (by simp [hk]), if_neg h46]
      rw [e] at hnext ⊢
      simp only [he] at hnext
      have eS : ∀ x : List UInt8, S s.T ++ S x ++ (⟨#[13, 10]⟩ : ByteArray) = S (s.T ++ (x ++ [13, 10])) := by
        intro x
        have e2 : L (⟨#[13, 10]⟩ : ByteArray) = [13, 10] := rfl
        apply L_inj
        simp only [L_app, L_S, e2, List.append_assoc]
      have noDot : Lib.hasPrefix (L l[i].f1) [46] ≠ true → Ev (fun k => (if (S s.T).size + (l[i].f1).size ≤ 9223372036854775807 then (if (S s.T ++ (l[i].f1)).size + 2 ≤ 9223372036854775807 then (bulletinref29_Body.l0 k l most ((S s.T ++ (l[i].f1)) ++ (⟨#[13, 10]⟩ : ByteArray)) s.bad false ((i + 1 : Nat) : Int)) else (none)) else (none))) (resB most ((l.drop (i + 1)).foldl putL ⟨s.T ++ (trim (L l[i].f1) ++ [13, 10]), s.bad, s.ended⟩)) := by
        intro hp
        have ht : trim (L l[i].f1) = L l[i].f1 := by unfold trim Lib.trimPrefix; rw [if_neg hp]
        refine pos (by omega) (pos (by rw [ByteArray.size_append]; omega) ?_)
        have h := eS (L l[i].f1)
        rw [S_L] at h
        rw [h]
        rw [ht] at hnext ⊢
        rw [he] at *
        exact hnext
      by_cases h0 : 0 < (L l[i].f1).length
      · have hb := btn l[i].f1 0 h0
        simp only [Int.natCast_zero] at hb
        refine pos (by omega) (pos (by omega) ?_)
        by_cases hp : Lib.hasPrefix (L l[i].f1) [46] = true
        · have ht : trim (L l[i].f1) = (L l[i].f1).drop 1 := by unfold trim Lib.trimPrefix; rw [if_pos hp]; rfl
          have hE : l[i].f1.extract 1 l[i].f1.size = S ((L l[i].f1).drop 1) := L_inj (by rw [L_to_end, L_S])
          refine pos (by rw [hb]; exact (hp46 _ h0).1 hp) (pos (by omega) ?_)
          rw [hE]
          have hz2 := zS ((L l[i].f1).drop 1)
          rw [List.length_drop] at hz2
          refine pos (by omega) (pos (by rw [ByteArray.size_append]; omega) ?_)
          rw [eS]
          rw [ht] at hnext ⊢
          rw [he] at *
          exact hnext
        · exact neg (by rw [hb]; exact fun e => hp ((hp46 _ h0).2 e)) (noDot hp)
      · have hn : L l[i].f1 = [] := List.length_eq_zero_iff.1 (by omega)
        exact neg (by omega) (noDot (by rw [hn]; simp [Lib.hasPrefix, List.isPrefixOf]))
theorem body_ev (l : List Ln) (most : Int) (hl : l.length ≤ 40) (hx : ∀ x ∈ l, x.f1.size ≤ 300) : Ev (fun k => bulletinref29_Body.f k l most) (resB most (puts l)) := by
  have h := body_l0 l most hl hx _ 0 ⟨[], false, false⟩ (by omega) (Nat.le_refl _) (by simp)
  rw [List.drop_zero] at h
  exact h
end Go.Proofs.Ytpolfnckbfdhgaa.Dot
