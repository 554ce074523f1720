/- verp: the laws VerpBack and (with the reference) VerpReads; Member. -/
import Derived.Test.YthckkikfldgphaaDoorVerpT
namespace Go.Proofs.YthckkikfldgphaaDoor.Verp
open Go.RowKit Go.Proofs.YthckkikfldgphaaDoor.X Go.Proofs.YthckkikfldgphaaDoorW.PrintWords Go.Proofs.YthckkikfldgphaaDoorW.PrintLast Go.Proofs.YthckkikfldgphaaDoorW.PrintMore Go.Proofs.YthckkikfldgphaaDoor.Aid
set_option linter.unusedVariables false
set_option linter.unusedSimpArgs false
set_option maxRecDepth 100000 in
theorem works60 : bulletinlaw24_works.f 60 = some true := by decide +kernel
theorem works_ev : Ev (fun k => bulletinlaw24_works.f k) true := Ev.of (fun k => bulletinlaw24_works.mono k) works60
theorem loc_len (l : List UInt8) (r : Nat) (e : List UInt8) : (loc l r e).length ≤ l.length + e.length + 9 := by
  have := sfx_len r
  unfold loc
  split
  · simp
  · split <;> simp <;> omega
theorem nmR {s l e : List UInt8} {r : Nat} (h : R s l r e) : (l.length ≤ s.length) ∧ e.length ≤ s.length := by
  have h1 := h.lo
  have h5 := h.hi
  have hl := h.less
  rw [h.eq]
  unfold loc
  rw [if_neg (by omega)]
  by_cases h4 : 4 ≤ r
  · rw [if_pos h4]; simp; omega
  · rw [if_neg h4, hl (by omega)]; simp
theorem back_law (a0 : ByteArray) (a1 : Int) (a2 a3 : ByteArray) (h0 : a0.size ≤ 140737488351232) (h1 : (Lit.int .i64 a1).wf = true) (h2 : a2.size ≤ 140737488351232) (h3 : a3.size ≤ 140737488351232) :
    Ev (fun k => bulletinlaw24_VerpBack.f k a0 a1 a2 a3) true := by
  unfold bulletinlaw24_VerpBack.f
  refine Ev.bind works_ev (pos (by trivial) ?_)
  have big : Ev (fun k => bulletinlaw24_VerpBack.j0 k a0 a1 a2 a3 true) true := by
    refine up ?_
    simp only [bulletinlaw24_VerpBack.j0]
    exact pos (by trivial) (now' rfl)
  by_cases z0 : (a0.size : Int) > 300
  · exact pos z0 big
  refine neg z0 ?_
  by_cases z2 : (a2.size : Int) > 300
  · exact pos z2 big
  refine neg z2 ?_
  by_cases z3 : (a3.size : Int) > 300
  · rw [decide_eq_true z3]; exact big
  rw [decide_eq_false z3]
  rw [sz] at z0 z2 z3
  refine up ?_
  simp only [bulletinlaw24_VerpBack.j0]
  refine neg (by simp) (Ev.bind (read_ev a3 (by omega)) ?_)
  have j2 : Ev (fun k => bulletinlaw24_VerpBack.j2 k a0 a1 a2 true) true := by
    refine up ?_
    simp only [bulletinlaw24_VerpBack.j2]
    exact pos (by trivial) (now' rfl)
  have rest : Ev (fun k => bulletinlaw24_VerpBack.j1 k a0 a1 a2 false) true := by
    refine up ?_
    simp only [bulletinlaw24_VerpBack.j1]
    refine neg (by simp) (Ev.bind (name_ev a0 (by omega)) ?_)
    cases hn : nm (L a0) with
    | false => exact neg (by simp) j2
    | true =>
      refine pos (by trivial) ?_
      by_cases g1 : a1 < 1
      · exact pos g1 j2
      refine neg g1 ?_
      by_cases g5 : a1 > 5
      · exact pos g5 j2
      refine neg g5 ?_
      obtain ⟨r, rfl⟩ : ∃ r : Nat, a1 = r := ⟨a1.toNat, by omega⟩
      have go : (4 ≤ r → L a2 ≠ []) → Ev (fun k => bulletinlaw24_VerpBack.j2 k a0 (r : Int) a2 false) true := by
        intro hm
        refine up ?_
        simp only [bulletinlaw24_VerpBack.j2]
        refine neg (by simp) (Ev.bind (local_ev a0 a2 r (by omega) (by omega) (by omega) (by omega)) ?_)
        have hll := loc_len (L a0) r (L a2)
        refine Ev.bind (read_ev _ (by rw [L_S]; omega)) ?_
        rw [L_S, fo_loc hn]
        have hR : R (loc (L a0) r (if 4 ≤ r then fo (L a2) else [])) (L a0) r (if 4 ≤ r then fo (L a2) else []) := ⟨hn, by omega, by omega, rfl, fun h4 => by rw [if_pos h4]; exact fun e => hm h4 (fo_eq_nil.1 e), fun h4 => by rw [if_neg (by omega)]⟩
        have hle : loc (L a0) r (if 4 ≤ r then fo (L a2) else []) = loc (L a0) r (fo (L a2)) := by
          unfold loc
          by_cases h4 : 4 ≤ r
          · simp only [if_pos h4]
          · simp only [if_neg h4]
        rw [hle] at hR
        rw [readP_of hR]
        simp only [enR]
        refine pos (by rw [tl, tl, L_S]) (pos (by trivial) (pos (by trivial) ?_))
        by_cases h4 : 4 ≤ r
        · rw [if_pos h4]
          refine neg (by omega) (pos (by omega) (Ev.bind (fold_ev a2 (by omega)) (now' ?_)))
          exact beq_self_eq_true _
        · rw [if_neg h4]
          exact pos (by omega) (pos (by rw [tl, L_S]) (now' rfl))
      by_cases g4 : (r : Int) ≥ 4
      · refine pos g4 ?_
        cases he : (a2.toList == ([] : List UInt8)) with
        | true => exact j2
        | false => exact go (fun _ e => by rw [tl, e] at he; cases he)
      · exact neg g4 (go (fun h4 => absurd h4 (by omega)))
  cases hr : readP (fo (L a3)) with
  | none =>
    simp only [enR]
    refine neg (by decide) (pos (by rw [tl, L_S]) (pos (by trivial) (pos (by rw [tl, L_S]) rest)))
  | some z =>
    obtain ⟨l, r, e⟩ := z
    have hR := readP_R hr
    obtain ⟨n1, n2⟩ := nmR hR
    rw [fo_len] at n1 n2
    simp only [enR]
    have hl := local_ev (S l) (S e) r (by rw [L_S]; omega) (by rw [L_S]; omega) hR.lo hR.hi
    have hn := name_ev (S l) (by rw [L_S]; omega)
    rw [L_S, L_S, ← hR.eq] at hl
    rw [L_S, hR.name] at hn
    refine pos (by trivial) (Ev.bind hl (Ev.bind (fold_ev a3 (by omega)) (pos (by rfl) (Ev.bind hn rest))))
end Go.Proofs.YthckkikfldgphaaDoor.Verp
