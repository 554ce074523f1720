-- Written by a program (print.py's text, with contracts of this session's own put in). Not trusted: Lean checks it.
import Derived.Test.YtdjpdbdilcjakaaDoorX0
import Derived.Test.YtdjpdbdilcjakaaDoorX3
import Derived.Test.YtdjpdbdilcjakaaDoorX6
import Derived.Test.YtdjpdbdilcjakaaDoorX7
namespace Go.Proofs.YtdjpdbdilcjakaaDoor.X
open Go.RowKit Go.Proofs.YtdjpdbdilcjakaaDoorW.PrintWords Go.Proofs.YtdjpdbdilcjakaaDoorW.PrintLast Go.Proofs.YtdjpdbdilcjakaaDoorW.PrintMore
attribute [local go_sem] max2_int min2_int max_two min_two max_three min_three max_four min_four   -- for this text's walks alone
set_option linter.unusedVariables false
set_option linter.unusedSimpArgs false

/-! ### reply_Read: function 16, a contract written by hand -/
def reply_last (out : List S27) : S27 := out.getD (out.length - 1) z27
def reply_put (out : List S27) (t : ByteArray) : List S27 := out.set (out.length - 1) ⟨(reply_last out).f0, (reply_last out).f1 ++ [t]⟩
def reply_Read.l0 : Nat → ByteArray → List S27 → Bool → Option (List S27 × Int)
  | 0, _, _, _ => none
  | k + 1, s, out, op => if s.size = 0 then (if op = true then some ([], 9) else some (out, 0)) else (strings_Cut.f s (⟨#[13, 10]⟩ : ByteArray)).bind fun c => if c.2.2 = true then ((reply_part.f k c.1).bind fun p => if p.2.2.2 = true then (if op = true then (if 0 < out.length then (if (reply_last out).f0 = p.1 then (if out.length < 1000000 ∧ (reply_last out).f1.length < 1000000 then reply_Read.l0 k c.2.1 (reply_put out p.2.1) (!p.2.2.1) else none) else some ([], 3)) else none) else (if out.length < 1000000 then reply_Read.l0 k c.2.1 (reply_put (out ++ [(⟨p.1, []⟩ : S27)]) p.2.1) (!p.2.2.1) else none)) else some ([], 3)) else some ([], 9)
def reply_Read.f (k : Nat) (a0 : ByteArray) : Option (List S27 × Int) := reply_Read.l0 k a0 [] false
theorem reply_Read.mono_l : ∀ k, (∀ y0 y1 y2, LeO (reply_Read.l0 k y0 y1 y2) (reply_Read.l0 (k + 1) y0 y1 y2))
  | 0 => fun _ _ _ r h => by simp [reply_Read.l0] at h
  | k + 1 => fun y0 y1 y2 => by
    have ih := reply_Read.mono_l k
    unfold reply_Read.l0
    exact LeO.ite (LeO.refl _) (LeO.bind (LeO.refl _) (fun _ => LeO.ite (LeO.bind (reply_part.mono _ _) (fun _ => LeO.ite (LeO.ite (LeO.ite (LeO.ite (LeO.ite (ih _ _ _) (LeO.refl _)) (LeO.refl _)) (LeO.refl _)) (LeO.ite (ih _ _ _) (LeO.refl _))) (LeO.refl _))) (LeO.refl _)))
theorem reply_Read.mono : ∀ a0 k, LeO (reply_Read.f k a0) (reply_Read.f (k + 1) a0) := fun a0 k => reply_Read.mono_l k a0 _ _
theorem reply_frozen {w w' : World} {b o : Nat} (h : w'.heap[b]? = w.heap[b]?) : w'.frozen? ⟨b, o, none⟩ = w.frozen? ⟨b, o, none⟩ := by
  unfold World.frozen?
  simp only [h]
theorem reply_info : (Tryd.prog.info? 27).map (fun i => (i.zero, i.size, i.bytes)) = some (some (.agg #[.int .i64 0, .slice none 0 0]), 2, 32) := by kernel_rfl
set_option maxHeartbeats 8000000 in
set_option maxRecDepth 100000 in
theorem reply_Read.calls (k : Nat) (a0 : ByteArray) (r1 : List S27) (r2 : Int) (w : World) (hT0 : Aside0 (Tabs w)) (h : reply_Read.f k a0 = some (r1, r2)) :
    Calls Tryd.prog 16 #[.string a0] w fun e w' => ∃ v0_ : Value, e = .returned (.tuple #[v0_, .int .i64 r2]) ∧ Kd.S k27 27 w' w.heap.size (fun _ => True) v0_ r1 ∧ Below w.heap.size w w' := by
  have H := Aside0.mk (show reply_Read.l0 k a0 [] false = some (r1, r2) from h)
  clear h
  go_enter Tryd.func16, Tryd.ntmps16
  go_wp2
  go_loopg [0, 4, 5] k (fun kq v0 v4 v5 wr => ∃ (s : ByteArray) (out : List S27) (op : Bool), v0 = .string s ∧ v5 = .bool op ∧ Aside0 (reply_Read.l0 kq s out op = some (r1, r2)) ∧ Aside0 (Kd.S k27 27 wr w.heap.size (fun _ => True) v4 out) ∧ Below w.heap.size w wr)
  case atStart => exact ⟨a0, [], false, rfl, rfl, H, ⟨Kd.S_nil _ _ _ _ _⟩, Below.refl _ _⟩
  case round =>
    clear H
    obtain ⟨s, out, op, rfl, rfl, HA, HS, hB⟩ := hrel
    cases gk with
    | zero => exact absurd HA.out (by simp [reply_Read.l0])
    | succ k1 =>
      have hg := HA.out
      clear HA
      simp only [reply_Read.l0] at hg
      have hszl := hB.size
      by_cases hz : s.size = 0
      · rw [if_pos hz] at hg
        have hs : (!s.toList.isEmpty) = false := by rw [bld_empty s, hz]; rfl
        have hs2 : (s.toList != ([] : List UInt8)) = false := by have := bld_empty s; rw [hz] at this; rw [bne_eq_false_iff_eq]; exact List.isEmpty_iff.1 (this.trans rfl)
        cases op with
        | true =>
          rw [if_pos rfl] at hg
          obtain ⟨rfl, rfl⟩ := Prod.mk.inj (Option.some.inj hg)
          clear hg
          go_wp2
          go_ret2
          exact ⟨_, rfl, Kd.S_nil _ _ _ _ _, hB⟩
        | false =>
          rw [if_neg (by simp)] at hg
          obtain ⟨rfl, rfl⟩ := Prod.mk.inj (Option.some.inj hg)
          clear hg
          go_wp2
          go_ret2
          exact ⟨_, rfl, HS.out, hB⟩
      · rw [if_neg hz] at hg
        have hs : (!s.toList.isEmpty) = true := by rw [bld_empty s]; simpa using hz
        have hs2 : (s.toList != ([] : List UInt8)) = true := by rw [bne_iff_ne]; intro e; have := bld_empty s; rw [e] at this; simp at this; exact hz (by rw [this]; rfl)
        replace hg := Option.bind_eq_some_iff.mp hg
        obtain ⟨⟨c1, c2, c3⟩, hc, hg⟩ := hg
        have HC := Aside0.mk hc
        clear hc hz
        have HT := Tabs.a hT0 hB
        dsimp only at hg
        cases c3 with
        | false =>
          rw [if_neg (by simp)] at hg
          obtain ⟨rfl, rfl⟩ := Prod.mk.inj (Option.some.inj hg)
          clear hg
          go_wp2_with fail
          refine (strings_Cut.calls (hT0 := HT) s _ c1 c2 false _ HC.out).mono ?_
          rintro e w1 ⟨rfl, ⟨nd, rfl⟩⟩
          go_wp2
          go_ret2
          exact ⟨_, rfl, Kd.S_nil _ _ _ _ _, pw_below_drewN hB _⟩
        | true =>
          rw [if_pos rfl] at hg
          replace hg := Option.bind_eq_some_iff.mp hg
          obtain ⟨⟨p1, p2, p3, p4⟩, hp, hg⟩ := hg
          have HP := Aside0.mk hp
          clear hp
          dsimp only at hg
          cases p4 with
          | false =>
            rw [if_neg (by simp)] at hg
            obtain ⟨rfl, rfl⟩ := Prod.mk.inj (Option.some.inj hg)
            clear hg
            go_wp2_with fail
            refine (strings_Cut.calls (hT0 := HT) s _ c1 c2 true _ HC.out).mono ?_
            rintro e w1 ⟨rfl, ⟨nd, rfl⟩⟩
            go_wp2_with fail
            refine (reply_part.calls k1 c1 p1 p2 p3 false _ HP.out).mono ?_
            rintro e w2 ⟨rfl, hb2⟩
            go_wp2
            go_ret2
            exact ⟨_, rfl, Kd.S_nil _ _ _ _ _, (pw_below_drewN hB _).trans (hb2.mono (by simpa using hszl))⟩
          | true =>
            rw [if_pos rfl] at hg
            cases op with
            | true =>
              rw [if_pos rfl] at hg
              by_cases hpos : 0 < out.length
              case neg => rw [if_neg hpos] at hg; exact absurd hg (by simp)
              rw [if_pos hpos] at hg
              obtain ⟨g, cap, rfl, hgb, hgl, _⟩ := Kd.S_form HS.out hpos
              have hlen : out.length ≤ 9223372036854775807 := (Kd.S_reads' HS.out).2.2.2.1
              by_cases hcode : (reply_last out).f0 = p1
              · rw [if_pos hcode] at hg
                by_cases hroom : out.length < 1000000 ∧ (reply_last out).f1.length < 1000000
                case neg => rw [if_neg hroom] at hg; exact absurd hg (by simp)
                rw [if_pos hroom] at hg
                have HG := Aside0.mk hg
                have HRO := Aside0.mk hroom
                have hcb : ((reply_last out).f0 != p1) = false := bne_eq_false_iff_eq.mpr hcode
                have HCO := Aside0.mk hcode
                clear hg hroom hcode
                go_wp2_with fail
                refine (strings_Cut.calls (hT0 := HT) s _ c1 c2 true _ HC.out).mono ?_
                rintro e w1 ⟨rfl, ⟨nd, rfl⟩⟩
                go_wp2_with fail
                refine (reply_part.calls k1 c1 p1 p2 p3 true _ HP.out).mono ?_
                rintro e w2 ⟨rfl, hb2⟩
                have HS2 := Aside0.mk (Kd.S_below (Kd.S_drewN HS.out nd) hb2)
                have hB2 : Below w.heap.size w w2 := (pw_below_drewN hB _).trans (hb2.mono (by simpa using hszl))
                obtain ⟨oki, cs, hcl, hM, hcc, hfr, hoki, hH⟩ := Kd.S_elem HS2.out z27 ((out.length : Int) - 1) (by omega) (by omega)
                obtain ⟨vi, rfl, hRi⟩ := k27_openM hM
                have hix : ((out.length : Int) - 1).toNat = out.length - 1 := by omega
                rw [hix] at hcc hfr hRi
                have hcell0 : w2.cell? ⟨g, (out.length - 1) * 2, none⟩ = some (.int .i64 (reply_last out).f0) := by
                  exact hcc 0 _ rfl
                have hcell1 : w2.cell? ⟨g, (out.length - 1) * 2 + 1, none⟩ = some vi := hcc 1 _ rfl
                have hfr1 : w2.frozen? ⟨g, (out.length - 1) * 2 + 1, none⟩ = false := hfr 1
                obtain ⟨le, hle⟩ : ∃ le, reply_last out = le := ⟨_, rfl⟩
                have hRi2 : Kd.string.R 9 w2 w.heap.size oki vi le.f1 := by rw [← hle]; exact hRi
                have HRI := Aside0.mk hRi2
                have HRL := Aside0.mk (show le.f1.length < 1000000 by rw [← hle]; exact HRO.out.2)
                have HLE := Aside0.mk hle
                have HOK := Aside0.mk (fun (k : Nat) (hk : oki k) => (hoki k hk).2)
                have HC1 := Aside0.mk hcell1
                have HF1 := Aside0.mk hfr1
                have HHH := Aside0.mk hH
                have HGL := Aside0.mk (show g < w2.heap.size from World.block_lt_of_cell? _ _ hcell0)
                have HNE : Aside0 (vi.ownBlock ≠ some g) := ⟨fun e => (hoki g (hRi.1 g e)).2 rfl⟩
                obtain ⟨Ai, ci, hvi⟩ := Kd.R_slice hRi2
                clear hle hRi2 hix hcc hfr hoki hH hM hcl hRi
                subst hvi
                go_wp2_with (at_builtin; refine Kd.R_append Kd.string (w0 := w) w.heap.size rfl (.tmp 64) (.tmp 66) 25 9 (.string ⟨#[]⟩) 16 rfl Tryd.underlying25 info9 rfl (by decide) (by omega) (.slice Ai le.f1.length ci) le.f1 p2 [.string p2] (fun k_ => oki k_ ∨ w2.heap.size ≤ k_) (fun _ => False) rfl rfl ?aP (fun _ hk => hk.elim) (fun _ hk => Or.inr hk) ?aO ?aB ?aS ?aL ?_; (case aP => rfl); (case aO => exact Kd.R_mono HRI.out (fun _ hk => Or.inl hk)); (case aB => exact hB2); (case aS => exact (hB2).size); (case aL => have := HRL.out; omega); intro v1 w5 ho hb5 hg5 hat5; clear hat5; have HO5 := Aside0.mk ho; have HG5 := Aside0.mk hg5; have hc5 : w5.cell? ⟨g, (out.length - 1) * 2 + 1, none⟩ = some (.slice Ai le.f1.length ci) := World.grownBy.cell hg5 HC1.out (fun e => HNE.out e.symm); have hf5 : w5.frozen? ⟨g, (out.length - 1) * 2 + 1, none⟩ = false := (reply_frozen (hg5.block g HGL.out (fun e => HNE.out e.symm))).trans HF1.out; obtain ⟨A5, c5, hv5⟩ := Kd.R_slice ho; clear ho hg5; subst hv5)
                go_roundg k1
                case measure => omega
                case rel =>
                  refine ⟨c2, reply_put out p2, !p3, rfl, by cases p3 <;> rfl, HG, ⟨?_⟩, ?_⟩
                  · have e1 : ((out.length : Int) - 1).toNat = out.length - 1 := by omega
                    have el : (le.f1 ++ [p2]).length = le.f1.length + 1 := by simp
                    have hle := HLE.out
                    have hf0 : (out.getD (out.length - 1) z27).f0 = le.f0 := by rw [← hle]; rfl
                    have HO6 := HO5.out
                    rw [el] at HO6
                    have h1 := Kd.H_grown (Kd.H_widen HHH.out) HG5.out (fun k hk => Or.inl (HRI.out.1 k hk))
                    have h2 := (Kd.H_seg h1 (by omega) (by omega) (seg := [.slice A5 (le.f1.length + 1) c5]) (j := 1) (Nat.le_refl 2) (by simp [Value.oneCell'])).1
                    rw [e1, hf0] at h2
                    have hM6 := k27_mkM (w5.setCell ⟨g, (out.length - 1) * 2 + 1, none⟩ (.slice A5 (le.f1.length + 1) c5)) w.heap.size _ (⟨le.f0, le.f1 ++ [p2]⟩ : S27) (Kd.R_far HO6 (p := ⟨g, (out.length - 1) * 2 + 1, none⟩) (fun k hk => Or.elim hk (HOK.out k) (fun h e => by have h9 := HGL.out; have e : k = g := e; omega)) (.slice A5 (le.f1.length + 1) c5))
                    have h3 := Kd.H_back h2 (x' := ⟨le.f0, le.f1 ++ [p2]⟩) hM6 (fun k hk => Or.elim hk Or.inl (fun h => Or.inr ⟨trivial, h⟩))
                    rw [e1] at h3
                    unfold reply_put
                    rw [hle]
                    exact h3
                  · exact below_set hb5 (by show w.heap.size ≤ g; omega)
              · rw [if_neg hcode] at hg
                obtain ⟨rfl, rfl⟩ := Prod.mk.inj (Option.some.inj hg)
                clear hg
                go_wp2_with fail
                refine (strings_Cut.calls (hT0 := HT) s _ c1 c2 true _ HC.out).mono ?_
                rintro e w1 ⟨rfl, ⟨nd, rfl⟩⟩
                go_wp2_with fail
                refine (reply_part.calls k1 c1 p1 p2 p3 true _ HP.out).mono ?_
                rintro e w2 ⟨rfl, hb2⟩
                have HS2 := Aside0.mk (Kd.S_below (Kd.S_drewN HS.out nd) hb2)
                obtain ⟨oki, cs, hcl, hM, hcc, hfr, hoki, hH⟩ := Kd.S_elem HS2.out z27 ((out.length : Int) - 1) (by omega) (by omega)
                obtain ⟨vi, rfl, hRi⟩ := k27_openM hM
                have hix : ((out.length : Int) - 1).toNat = out.length - 1 := by omega
                rw [hix] at hcc hfr hRi
                have hcell0 : w2.cell? ⟨g, (out.length - 1) * 2, none⟩ = some (.int .i64 (reply_last out).f0) := by
                  exact hcc 0 _ rfl
                have hcell1 : w2.cell? ⟨g, (out.length - 1) * 2 + 1, none⟩ = some vi := hcc 1 _ rfl
                have hfr1 : w2.frozen? ⟨g, (out.length - 1) * 2 + 1, none⟩ = false := hfr 1
                have hcb : ((reply_last out).f0 != p1) = true := bne_iff_ne.mpr hcode
                clear hix hcc hfr hoki hH hM hcl hcode hRi hcell1 hfr1
                go_wp2
                go_ret2
                exact ⟨_, rfl, Kd.S_nil _ _ _ _ _, (pw_below_drewN hB _).trans (hb2.mono (by simpa using hszl))⟩
            | false =>
              rw [if_neg (by simp)] at hg
              by_cases hroom : out.length < 1000000
              case neg => rw [if_neg hroom] at hg; exact absurd hg (by simp)
              rw [if_pos hroom] at hg
              have HG := Aside0.mk hg
              clear hg
              obtain ⟨A4, c4, h4⟩ := Kd.S_slice HS.out
              subst h4
              go_wp2_with fail
              refine (strings_Cut.calls (hT0 := HT) s _ c1 c2 true _ HC.out).mono ?_
              rintro e w1 ⟨rfl, ⟨nd, rfl⟩⟩
              go_wp2_with fail
              refine (reply_part.calls k1 c1 p1 p2 p3 true _ HP.out).mono ?_
              rintro e w2 ⟨rfl, hb2⟩
              have HS2 := Aside0.mk (Kd.S_below (Kd.S_drewN HS.out nd) hb2)
              have hB2 : Below w.heap.size w w2 := (pw_below_drewN hB _).trans (hb2.mono (by simpa using hszl))
              go_wp2_with (first | (at_builtin; refine Kd.S_append k27 (w0 := w) w.heap.size rfl (.tmp 50) (.tmp 53) 34 27 (.agg #[.int .i64 0, .slice none 0 0]) 32 rfl Tryd.underlying34 reply_info rfl (by decide) (by omega) (.slice A4 out.length c4) out (⟨p1, []⟩ : S27) [.int .i64 p1, .slice none 0 0] (fun _ => True) (fun _ => False) rfl rfl ?bP (fun _ hk => hk.elim) (fun _ _ => trivial) ?bO ?bB ?bS ?bL ?_; (case bP => exact k27_mkM _ _ _ (⟨p1, []⟩ : S27) (Kd.R_nil _ _ _ _ _)); (case bO => exact Kd.S_mono HS2.out (fun _ _ => ⟨trivial, id⟩)); (case bB => exact hB2); (case bS => exact hB2.size); (case bL => omega); intro v1 w3 ho3 hb3 hg3 hat3; clear hat3 hg3; (obtain ⟨out1, hout1⟩ : ∃ o, out ++ [(⟨p1, []⟩ : S27)] = o := ⟨_, rfl⟩); (rw [hout1] at ho3); (have hlen1 : out1.length = out.length + 1 := by rw [← hout1]; simp); (have hlast1 : reply_last out1 = (⟨p1, []⟩ : S27) := by rw [← hout1]; simp [reply_last]); (obtain ⟨g, cap, hv1, hgb, hgl, _⟩ := Kd.S_form ho3 (by omega)); (subst hv1); (have HO3 := Aside0.mk ho3); (have HOUT := Aside0.mk hout1); (have hlenA : 1 ≤ out1.length := by omega); (have hlenB : out1.length ≤ 1000000 := by omega); (have HL1 := Aside0.mk hlast1); (clear ho3 hout1 hlen1 hlast1); (obtain ⟨oki, cs, hcl, hM, hcc, hfr, hoki, hH⟩ := Kd.S_elem HO3.out z27 ((out1.length : Int) - 1) (by omega) (by omega)); (obtain ⟨vi, rfl, hRi⟩ := k27_openM hM); (have hix : ((out1.length : Int) - 1).toNat = out1.length - 1 := by omega); (rw [hix] at hcc hfr hRi); (have hcell0 : w3.cell? ⟨g, (out1.length - 1) * 2, none⟩ = some (.int .i64 (reply_last out1).f0) := hcc 0 _ rfl); (have hcell1 : w3.cell? ⟨g, (out1.length - 1) * 2 + 1, none⟩ = some vi := hcc 1 _ rfl); (have hfr1 : w3.frozen? ⟨g, (out1.length - 1) * 2 + 1, none⟩ = false := hfr 1); (obtain ⟨le, hle⟩ : ∃ le, reply_last out1 = le := ⟨_, rfl⟩); (have hRi2 : Kd.string.R 9 w3 w.heap.size oki vi le.f1 := by rw [← hle]; exact hRi); (have HRI := Aside0.mk hRi2); (have HRL := Aside0.mk (show le.f1.length < 1000000 by rw [← hle, HL1.out]; show 0 < 1000000; omega)); (have HLE := Aside0.mk hle); (have HOK := Aside0.mk (fun (k : Nat) (hk : oki k) => (hoki k hk).2)); (have HC1 := Aside0.mk hcell1); (have HF1 := Aside0.mk hfr1); (have HHH := Aside0.mk hH); (have HGL := Aside0.mk (show g < w3.heap.size from World.block_lt_of_cell? _ _ hcell0)); (have HNE : Aside0 (vi.ownBlock ≠ some g) := ⟨fun e => (hoki g (hRi.1 g e)).2 rfl⟩); (obtain ⟨Ai, ci, hvi⟩ := Kd.R_slice hRi2); (clear hle hRi2 hix hcc hfr hoki hH hM hcl hRi); (subst hvi)) | (at_builtin; refine Kd.R_append Kd.string (w0 := w) w.heap.size rfl (.tmp 64) (.tmp 66) 25 9 (.string ⟨#[]⟩) 16 rfl Tryd.underlying25 info9 rfl (by decide) (by omega) (.slice Ai le.f1.length ci) le.f1 p2 [.string p2] (fun k_ => oki k_ ∨ w3.heap.size ≤ k_) (fun _ => False) rfl rfl ?aP (fun _ hk => hk.elim) (fun _ hk => Or.inr hk) ?aO ?aB ?aS ?aL ?_; (case aP => rfl); (case aO => exact Kd.R_mono HRI.out (fun _ hk => Or.inl hk)); (case aB => exact hb3); (case aS => exact (hb3).size); (case aL => have := HRL.out; omega); intro v1 w5 ho hb5 hg5 hat5; clear hat5; have HO5 := Aside0.mk ho; have HG5 := Aside0.mk hg5; have hc5 : w5.cell? ⟨g, (out1.length - 1) * 2 + 1, none⟩ = some (.slice Ai le.f1.length ci) := World.grownBy.cell hg5 HC1.out (fun e => HNE.out e.symm); have hf5 : w5.frozen? ⟨g, (out1.length - 1) * 2 + 1, none⟩ = false := (reply_frozen (hg5.block g HGL.out (fun e => HNE.out e.symm))).trans HF1.out; obtain ⟨A5, c5, hv5⟩ := Kd.R_slice ho; clear ho hg5; subst hv5))
              go_roundg k1
              case measure => omega
              case rel =>
                refine ⟨c2, reply_put out1 p2, !p3, rfl, by cases p3 <;> rfl, (by rw [← HOUT.out]; exact HG), ⟨?_⟩, ?_⟩
                · have e1 : ((out1.length : Int) - 1).toNat = out1.length - 1 := by omega
                  have el : (le.f1 ++ [p2]).length = le.f1.length + 1 := by simp
                  have hle := HLE.out
                  have hf0 : (out1.getD (out1.length - 1) z27).f0 = le.f0 := by rw [← hle]; rfl
                  have HO6 := HO5.out
                  rw [el] at HO6
                  have h1 := Kd.H_grown (Kd.H_widen HHH.out) HG5.out (fun k hk => Or.inl (HRI.out.1 k hk))
                  have h2 := (Kd.H_seg h1 (by omega) (by omega) (seg := [.slice A5 (le.f1.length + 1) c5]) (j := 1) (Nat.le_refl 2) (by simp [Value.oneCell'])).1
                  rw [e1, hf0] at h2
                  have hM6 := k27_mkM (w5.setCell ⟨g, (out1.length - 1) * 2 + 1, none⟩ (.slice A5 (le.f1.length + 1) c5)) w.heap.size _ (⟨le.f0, le.f1 ++ [p2]⟩ : S27) (Kd.R_far HO6 (p := ⟨g, (out1.length - 1) * 2 + 1, none⟩) (fun k hk => Or.elim hk (HOK.out k) (fun h e => by have h9 := HGL.out; have e : k = g := e; omega)) (.slice A5 (le.f1.length + 1) c5))
                  have h3 := Kd.H_back h2 (x' := ⟨le.f0, le.f1 ++ [p2]⟩) hM6 (fun k hk => Or.elim hk Or.inl (fun h => Or.inr ⟨trivial, h⟩))
                  rw [e1] at h3
                  unfold reply_put
                  rw [hle]
                  exact h3
                · exact below_set hb5 (by show w.heap.size ≤ g; omega)


end Go.Proofs.YtdjpdbdilcjakaaDoor.X
