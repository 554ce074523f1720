/- verp: Member, Return, and the law VerpAgain. -/
import Derived.Test.YthckkikfldgphaaDoorVerpT
import Derived.Test.YthckkikfldgphaaDoorXAg
namespace Go.Proofs.YthckkikfldgphaaDoor.Verp
open Go.RowKit Go.Proofs.YthckkikfldgphaaDoor.X Go.Proofs.YthckkikfldgphaaDoorW.PrintWords Go.Proofs.YthckkikfldgphaaDoorW.PrintLast Go.Proofs.YthckkikfldgphaaDoorW.PrintMore Go.Proofs.YthckkikfldgphaaDoor.Aid
set_option linter.unusedVariables false
set_option linter.unusedSimpArgs false
theorem ext_ne (l d : List UInt8) : ext l d ≠ [] := by unfold ext; simp
theorem again_law (q0 q1 list host : ByteArray) (h2 : list.size ≤ 140737488351232) (h3 : host.size ≤ 140737488351232) :
    Ev (fun k => bulletinlaw24_VerpAgain.f k q0 q1 list host) true := by
  unfold bulletinlaw24_VerpAgain.f
  refine Ev.bind works_ev (pos (by trivial) (cbind rfl ?_))
  have bad : Ev (fun k => bulletinlaw24_VerpAgain.j0 k list host true q0 q1) true := by
    refine up ?_
    simp only [bulletinlaw24_VerpAgain.j0]
    exact pos (by trivial) (now' rfl)
  by_cases z0 : (q0.size : Int) > 300
  · exact pos z0 bad
  refine neg z0 ?_
  by_cases z1 : (q1.size : Int) > 300
  · exact pos z1 bad
  refine neg z1 ?_
  by_cases z2 : (list.size : Int) > 300
  · exact pos z2 bad
  refine neg z2 ?_
  rw [sz] at z0 z1 z2
  refine Ev.bind (right_ev q0 q1 (by omega) (by omega)) ?_
  cases hr : right (L q0) (L q1) with
  | false => exact neg (by simp) bad
  | true =>
    refine pos (by trivial) (Ev.bind (name_ev list (by omega)) ?_)
    cases hn : nm (L list) with
    | false => exact bad
    | true =>
      refine up ?_
      simp only [bulletinlaw24_VerpAgain.j0]
      obtain ⟨l, hl⟩ : ∃ l, L q0 = l := ⟨_, rfl⟩
      obtain ⟨d, hd⟩ : ∃ d, L q1 = d := ⟨_, rfl⟩
      have hx := ext_len (L q0) (L q1)
      have he := extend_ev q0 q1 (by omega) (by omega)
      have hm := member_ev (S (ext (L q0) (L q1))) (by rw [L_S]; omega)
      rw [L_S, ext_fo, (again hr).1] at hm
      have hret := return_ev list host q0 q1 (by omega) (by omega) (by omega)
      have hll := loc_len (L list) 5 (ext (L q0) (L q1))
      have hrd := read_ev (S (loc (L list) 5 (ext (L q0) (L q1)))) (by rw [L_S]; omega)
      have hR : R (loc (L list) 5 (ext (L q0) (L q1))) (L list) 5 (ext (L q0) (L q1)) := ⟨hn, by omega, by omega, rfl, fun _ => ext_ne _ _, fun h => by omega⟩
      rw [L_S, fo_loc hn, ext_fo, readP_of hR] at hrd
      refine neg (by simp) (Ev.bind he (Ev.bind hm (Ev.bind hret (Ev.bind hrd (Ev.bind hm ?_)))))
      have ht := text_len (fo (L q0)) (L q1)
      have ht2 := text_len (L q0) (L q1)
      rw [fo_len] at ht
      have hk1 := key_ev (S (fo (L q0))) (S (L q1)) (by rw [L_S, fo_len]; omega) (by rw [L_S]; omega) (by rw [L_S, L_S]; omega)
      rw [L_S, L_S, (again hr).2] at hk1
      have hk2 := key_ev q0 q1 (by omega) (by omega) (by omega)
      refine pos (by rfl) (pos (by rfl) (pos (by rfl) (Ev.bind hk1 (Ev.bind hk2 (pos (by rfl) ?_)))))
      refine pos ?_ (pos (by rw [show (enR (some (L list, 5, ext (L q0) (L q1)))).1 = S (L list) from rfl, S_L]) (pos (by rfl) (Ev.bind (fold_ev q0 (by omega)) (pos (by rfl) (now' ?_)))))
      · rw [Bool.and_eq_true]
        exact ⟨beq_self_eq_true _, beq_self_eq_true _⟩
      · rw [show (enM (some (fo (L q0), L q1))).2.1 = S (L q1) from rfl, S_L]
        exact beq_self_eq_true _
end Go.Proofs.YthckkikfldgphaaDoor.Verp
