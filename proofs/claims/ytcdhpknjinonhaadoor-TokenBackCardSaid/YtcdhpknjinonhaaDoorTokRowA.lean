/- token: what the printed parts tell. -/
import Derived.Test.YtcdhpknjinonhaaDoorY1
import Derived.Test.YtcdhpknjinonhaaDoorTokAll
import Derived.Test.YtcdhpknjinonhaaDoorY5
import Derived.Test.YtcdhpknjinonhaaDoorShaAll
namespace Go.Proofs.YtcdhpknjinonhaaDoor.Tok
open Go.RowKit Go.Proofs.YtcdhpknjinonhaaDoor.X Go.Proofs.YtcdhpknjinonhaaDoorW.PrintWords Go.Proofs.YtcdhpknjinonhaaDoorW.PrintLast Go.Proofs.YtcdhpknjinonhaaDoorW.PrintMore Go.Proofs.YtcdhpknjinonhaaDoor.Aid
open Go.Lib (decDigits itoa cut)
open Go.Proofs.YtcdhpknjinonhaaDoor.Glyph (low foldL fold_ev)
set_option linter.unusedVariables false
set_option linter.unusedSimpArgs false
theorem light_f (n : Int) (a l o : ByteArray) : bulletinlaw25_light.f n a l o = some (lightB a l o) := by
  unfold bulletinlaw25_light.f lightB
  by_cases h1 : a.size ≤ 100
  · by_cases h2 : l.size ≤ 100
    · rw [if_pos (by omega), if_pos (by omega)]
      congr 1
      rw [decide_eq_decide]
      omega
    · rw [if_pos (by omega), if_neg (by omega)]
      congr 1
      symm
      rw [decide_eq_false_iff_not]
      omega
  · rw [if_neg (by omega)]
    congr 1
    symm
    rw [decide_eq_false_iff_not]
    omega
theorem lt_of {n : Int} {a l o : ByteArray} (n0 : -9223372036854775808 ≤ n) (n1 : n ≤ 9223372036854775807) (h : lightB a l o = true) : Lt n a l o := by
  unfold lightB at h
  rw [decide_eq_true_eq] at h
  exact ⟨n0, n1, h.1, h.2.1, h.2.2⟩
theorem make_f (key : ByteArray) (n : Int) (a l o : ByteArray) (hk : key.size ≤ 300) (h : Lt n a l o) : Y.token_Make.f key n a l o = some (S (makeL key n a l o)) := by
  unfold Y.token_Make.f
  rw [if_pos ⟨by omega, h.n0, h.n1, h.a, h.l, h.o⟩]
theorem fits_f (key : ByteArray) (n : Int) (a l o s : ByteArray) (hk : key.size ≤ 300) (h : Lt n a l o) (hs : s.size ≤ 100000) : Y.token_Fits.f key n a l o s = some (fitsL key n a l o s) := by
  unfold Y.token_Fits.f
  rw [if_pos ⟨by omega, h.n0, h.n1, h.a, h.l, h.o, hs⟩]
end Go.Proofs.YtcdhpknjinonhaaDoor.Tok
/- token: TokenBack's law, plain. -/
namespace Go.Proofs.YtcdhpknjinonhaaDoor.Tok
open Go.RowKit Go.Proofs.YtcdhpknjinonhaaDoor.X Go.Proofs.YtcdhpknjinonhaaDoorW.PrintWords Go.Proofs.YtcdhpknjinonhaaDoorW.PrintLast Go.Proofs.YtcdhpknjinonhaaDoorW.PrintMore Go.Proofs.YtcdhpknjinonhaaDoor.Aid
open Go.Lib (decDigits itoa cut)
open Go.Proofs.YtcdhpknjinonhaaDoor.Glyph (low foldL fold_ev)
set_option linter.unusedVariables false
set_option linter.unusedSimpArgs false
theorem back_ev (key : ByteArray) (n : Int) (a l o : ByteArray) (n0 : -9223372036854775808 ≤ n) (n1 : n ≤ 9223372036854775807) : Ev (fun k => Y.bulletinlaw25_TokenBack.f k key n a l o) true := by
  unfold Y.bulletinlaw25_TokenBack.f
  refine cbind (a := true) rfl (pos rfl ?_)
  by_cases hk : (key.size : Int) > 300
  · refine pos hk (Aid.up ?_)
    simp only [Y.bulletinlaw25_TokenBack.j0]
    exact pos (by trivial) (now' rfl)
  refine neg hk (cbind (light_f n a l o) ?_)
  by_cases hl : lightB a l o = true
  case neg =>
    have hl2 : lightB a l o = false := by simpa using hl
    rw [hl2]
    refine Aid.up ?_
    simp only [Y.bulletinlaw25_TokenBack.j0]
    exact pos (by trivial) (now' rfl)
  have hlt := lt_of n0 n1 hl
  rw [hl]
  have hfold := fold_make key n a l o
  have hup := fold_up_make key n a l o
  have hlen := makeL_len key n a l o
  have hil := itoa_len n n0 n1
  have hine := List.length_pos_iff.2 (itoa_ne n)
  have hso := sealL_ok key n a l o
  have hform : makeL key n a l o = (itoa n ++ [46]) ++ sealL key n a l o := rfl
  have hread := fun x hx => read_ev key n a l o n0 n1 x hx
  have hself := fun x hx => fitsL_self key n a l o x hx
  have hmk := make_f key n a l o (by omega) hlt
  have hft := fun s hs => fits_f key n a l o s (by omega) hlt hs
  unfold readR at hread
  obtain ⟨M, hM⟩ : ∃ M, makeL key n a l o = M := ⟨_, rfl⟩
  obtain ⟨Q, hQ⟩ : ∃ Q, sealL key n a l o = Q := ⟨_, rfl⟩
  rw [hM] at hfold hup hlen hform hmk
  rw [hQ] at hform hso
  simp only [hM, hQ] at hread hself
  clear hM hQ
  obtain ⟨R, hR⟩ : ∃ R : Int × ByteArray × Int, (if 0 ≤ n ∧ n ≤ 1099511627776 then (n, S Q, 0) else (0, ⟨#[]⟩, 250)) = R := ⟨_, rfl⟩
  simp only [hR] at hread
  have hz : (S M).size = (itoa n).length + 17 := by rw [sz, L_S, hlen]
  refine Aid.up ?_
  simp only [Y.bulletinlaw25_TokenBack.j0]
  refine neg (by simp) (cbind (a := (n, a, l, o)) rfl (cbind hmk ?_))
  refine cbind (a := S (upL M)) (by unfold Y.bulletinlaw25_upper.f; rw [if_pos (by omega), L_S]) ?_
  refine Ev.bind (hread (S (upL M)) (by rw [L_S, hup])) ?_
  refine neg (by omega) (cbind (hft (S M) (by omega)) ?_)
  rw [hself (S M) (by rw [L_S, hfold])]
  refine pos rfl (cbind (a := S (upL M)) (by unfold Y.bulletinlaw25_upper.f; rw [if_pos (by omega), L_S]) ?_)
  refine cbind (hft (S (upL M)) (by rw [sz, L_S]; simp [upL]; omega)) ?_
  rw [hself (S (upL M)) (by rw [L_S, hup])]
  refine Aid.up ?_
  simp only [Y.bulletinlaw25_TokenBack.j1]
  refine neg (by simp) ?_
  by_cases h1 : n < 0
  · rw [if_neg (by omega)] at hR
    subst hR
    exact pos h1 (pos rfl (pos rfl (now' (by show ((⟨#[]⟩ : ByteArray).toList == []) = true; rw [tl]; rfl))))
  · refine neg h1 ?_
    by_cases h2 : n > 1099511627776
    · rw [if_neg (by omega)] at hR
      subst hR
      exact pos h2 (pos rfl (pos rfl (now' (by show ((⟨#[]⟩ : ByteArray).toList == []) = true; rw [tl]; rfl))))
    · rw [if_pos (by omega)] at hR
      subst hR
      refine neg h2 (pos rfl (pos rfl ?_))
      rw [w64 (by omega) (by omega)]
      refine pos (by omega) (pos (by omega) (now' ?_))
      rw [beq_L, decide_eq_true_eq]
      apply L_inj
      rw [L_to_end, L_S, L_S, hform]
      have e : (((S (itoa n ++ [46] ++ Q)).size : Int) - 16).toNat = (itoa n ++ [46]).length := by
        rw [sz, L_S, List.length_append, hso.1]
        omega
      rw [e, List.drop_left]
end Go.Proofs.YtcdhpknjinonhaaDoor.Tok
/- bulletin/bulletinlaw25.TokenBack, as its row asks for it. -/
namespace Go.Proofs.YtcdhpknjinonhaaDoor.Row
open Go.RowKit Go.Proofs.YtcdhpknjinonhaaDoorW.PrintWords Go.Proofs.YtcdhpknjinonhaaDoorW.PrintLast
set_option linter.unusedVariables false
theorem back_ev (key : ByteArray) (n : Int) (a l o : ByteArray) (h0 : key.size ≤ 140737488351232) (h1 : (Lit.int .i64 n).wf = true) : Ev (fun k => Y.bulletinlaw25_TokenBack.f k key n a l o) true :=
  Tok.back_ev key n a l o (Aid.wf64 h1).1 (Aid.wf64 h1).2
end Go.Proofs.YtcdhpknjinonhaaDoor.Row
