/- What the printed functions of glyph's reference tell. -/
import Derived.Test.YtlkppogpoodjlaaDoorGlyphP
namespace Go.Proofs.YtlkppogpoodjlaaDoor.Glyph
open Go.RowKit Go.Proofs.YtlkppogpoodjlaaDoor.X Go.Proofs.YtlkppogpoodjlaaDoorW.PrintWords Go.Proofs.YtlkppogpoodjlaaDoorW.PrintLast Go.Proofs.YtlkppogpoodjlaaDoorW.PrintMore Go.Proofs.YtlkppogpoodjlaaDoor.Aid
open Go.Lib (decodeL decodeN encodeRune encodeRuneZ)
set_option linter.unusedVariables false
set_option linter.unusedSimpArgs false

/-! ### One -/
theorem At.get {s : ByteArray} {p : Nat} {l : List UInt8} (h : At s p l) (j : Nat) : (L s).getD (p + j) 0 = l.getD j 0 := by
  rw [← h.dr]; simp [List.getD_eq_getElem?_getD, List.getElem?_drop]
theorem At.len {s : ByteArray} {p : Nat} {l : List UInt8} (h : At s p l) : (L s).length = p + l.length := by
  have := congrArg List.length h.dr
  rw [List.length_drop] at this
  have := h.le
  omega
def tlv (n : Nat) (b j : Nat) : Int := if j < n ∧ b / 64 = 2 then ((b % 64 : Nat) : Int) else -1
theorem tail_eq {s : ByteArray} {p : Nat} {l : List UInt8} (h : At s p l) (hs : (L s).length ≤ 1000000000) (j : Nat) (hj : j ≤ 10) :
    bulletinref06_tail.f s (wrap64 ((p : Int) + (j : Int))) = some (tlv l.length (l.getD j 0).toNat j) := by
  have hl := h.len
  have hb := btd s (p + j)
  rw [h.get] at hb
  have hp := h.le
  have e : wrap64 ((p : Int) + (j : Int)) = ((p + j : Nat) : Int) := by rw [w64 (by omega) (by omega)]; rfl
  rw [e]
  unfold bulletinref06_tail.f tlv
  rw [sz, hb]
  have hx := (l.getD j 0).toNat_lt
  generalize (l.getD j 0).toNat = x at hx ⊢
  by_cases h1 : j < l.length
  · rw [if_neg (by omega), if_pos (by omega), if_pos (by omega)]
    by_cases h2 : x < 128
    · rw [if_pos (by omega), if_neg (by omega)]
    · by_cases h3 : x > 191
      · rw [if_neg (by omega), if_pos (by omega), if_neg (by omega)]
      · rw [if_neg (by omega), if_neg (by omega), if_pos ⟨h1, by omega⟩, w64 (x := (x : Int)) (by omega) (by omega), w64 (by omega) (by omega)]
        congr 1
        omega
  · rw [if_pos (by omega), if_neg (by omega)]
theorem one_bad {l : List UInt8} (h : decodeL l = (65533, 1)) : one l = (-1, 1) := by unfold one; rw [h]; rfl
theorem one_ok {l : List UInt8} {v n : Nat} (h : decodeL l = (v, n)) (hn : n ≠ 1 ∨ v ≠ 65533) : one l = ((v : Int), n) := by
  unfold one
  rw [h, if_neg]
  rintro ⟨a, b⟩
  have a : v = 65533 := a
  have b : n = 1 := b
  omega
/-- behind the loop -/
theorem fin_ev (s : ByteArray) (p : Int) (z : Nat) (n : Nat) (m : Nat) (hz : 2 ≤ z ∧ z ≤ 4) (hm : m = if z = 2 then 128 else if z = 3 then 2048 else 65536) {r : Int × Int}
    (h1 : m ≤ n ∧ (n < 55296 ∨ (57344 ≤ n ∧ n ≤ 1114111)) → r = ((n : Int), (z : Int))) (h2 : ¬ (m ≤ n ∧ (n < 55296 ∨ (57344 ≤ n ∧ n ≤ 1114111))) → r = (-1, 1)) :
    Ev (fun k => bulletinref06_One.l0 k s p (z : Int) (n : Int) (z : Int)) r := by
  refine up ?_
  simp only [bulletinref06_One.l0]
  refine neg (by omega) (cbind rfl (neg (by omega) (pos (by omega) (pos ?_ ?_))))
  · show (z : Int) < ((5 : Nat) : Int); omega
  have hr : rd [0, 0, 128, 2048, 65536] (z : Int) = (m : Int) := by
    obtain rfl | rfl | rfl : z = 2 ∨ z = 3 ∨ z = 4 := by omega
    all_goals (rw [hm]; rfl)
  rw [hr]
  clear hr hm
  by_cases c1 : n < m
  · exact pos (by omega) (now' (h2 (by omega)).symm)
  refine neg (by omega) ?_
  by_cases c2 : n < 55296
  · exact neg (by omega) (neg (by omega) (now' (h1 (by omega)).symm))
  refine pos (by omega) ?_
  by_cases c3 : n ≤ 57343
  · exact pos (by omega) (now' (h2 (by omega)).symm)
  refine neg (by omega) ?_
  by_cases c4 : n ≤ 1114111
  · exact neg (by omega) (now' (h1 (by omega)).symm)
  · exact pos (by omega) (now' (h2 (by omega)).symm)
theorem step_ev (s : ByteArray) (p : Int) (z n j : Nat) (t : Int) (hj : j < z) (hz : z ≤ 4) (hn : n ≤ 100000000) {r : Int × Int} (ht : bulletinref06_tail.f s (wrap64 (p + (j : Int))) = some t) (ht1 : t < 100)
    (h1 : t < 0 → r = (-1, 1)) (h2 : ∀ u : Nat, t = (u : Int) → Ev (fun k => bulletinref06_One.l0 k s p (z : Int) ((64 * n + u : Nat) : Int) ((j + 1 : Nat) : Int)) r) :
    Ev (fun k => bulletinref06_One.l0 k s p (z : Int) (n : Int) (j : Int)) r := by
  refine up ?_
  simp only [bulletinref06_One.l0]
  refine pos (by omega) (cbind ht ?_)
  by_cases h : t < 0
  · rw [h1 h]
    exact pos h (Ev.now _)
  · obtain ⟨u, rfl⟩ : ∃ u : Nat, t = (u : Int) := ⟨t.toNat, by omega⟩
    refine neg h ?_
    rw [w64 (x := 64 * (n : Int)) (by omega) (by omega), w64 (by omega) (by omega), wi j (by omega)]
    have := h2 u rfl
    have e : ((64 * n + u : Nat) : Int) = 64 * (n : Int) + (u : Int) := by omega
    rw [e] at this
    exact this
theorem tlv_cases (n b j : Nat) : (tlv n b j = -1 ∧ ¬ (j < n ∧ b / 64 = 2)) ∨ (tlv n b j = ((b % 64 : Nat) : Int) ∧ (j < n ∧ b / 64 = 2)) := by
  unfold tlv
  by_cases h : j < n ∧ b / 64 = 2
  · rw [if_pos h]; exact Or.inr ⟨rfl, h⟩
  · rw [if_neg h]; exact Or.inl ⟨rfl, h⟩
theorem tlv_lt (n b j : Nat) : tlv n b j < 100 := by
  rcases tlv_cases n b j with ⟨h, _⟩ | ⟨h, _⟩ <;> rw [h] <;> omega
theorem refone_ev (s : ByteArray) (hs : (L s).length ≤ 1000000000) {p : Nat} {l : List UInt8} (h : At s p l) (hl : l ≠ []) : Ev (fun k => bulletinref06_One.f k s (p : Int)) ((one l).1, ((one l).2 : Int)) := by
  have hlt := h.lt hl
  have h0 : bt s (p : Int) = ((l.getD 0 0).toNat : Int) := by
    have := btd s p
    rwa [show (L s).getD p 0 = l.getD 0 0 from h.get 0] at this
  have t1 := tail_eq h hs 1 (by decide)
  have t2 := tail_eq h hs 2 (by decide)
  have t3 := tail_eq h hs 3 (by decide)
  have hd := Go.Lib.decodeL_N l
  have x0 := (l.getD 0 0).toNat_lt
  have x1 := (l.getD 1 0).toNat_lt
  have x2 := (l.getD 2 0).toNat_lt
  have x3 := (l.getD 3 0).toNat_lt
  generalize (l.getD 0 0).toNat = b0 at *
  generalize (l.getD 1 0).toNat = b1 at *
  generalize (l.getD 2 0).toNat = b2 at *
  generalize (l.getD 3 0).toNat = b3 at *
  generalize l.length = n at *
  have g1 := tlv_cases n b1 1
  have g2 := tlv_cases n b2 2
  have g3 := tlv_cases n b3 3
  have i1 := tlv_lt n b1 1
  have i2 := tlv_lt n b2 2
  have i3 := tlv_lt n b3 3
  generalize tlv n b1 1 = T1 at *
  generalize tlv n b2 2 = T2 at *
  generalize tlv n b3 3 = T3 at *
  have good : ∀ (v z : Nat), decodeL l = (v, z) → (z ≠ 1 ∨ v ≠ 65533) → (((v : Int), (z : Int)) : Int × Int) = ((one l).1, ((one l).2 : Int)) := fun v z e q => by rw [one_ok e q]
  have bad : decodeL l = (65533, 1) → (((-1 : Int), (1 : Int)) : Int × Int) = ((one l).1, ((one l).2 : Int)) := fun e => by rw [one_bad e]; rfl
  generalize ((one l).1, ((one l).2 : Int)) = r at *
  unfold decodeN at hd
  unfold bulletinref06_One.f
  refine pos (by omega) (pos (by rw [sz]; omega) ?_)
  rw [h0, w64 (by omega) (by omega)]
  by_cases c1 : b0 < 128
  · rw [if_pos c1] at hd
    exact pos (by omega) (now' (good _ _ hd (by omega)))
  rw [if_neg c1] at hd
  refine neg (by omega) ?_
  have chain : ∀ (q : Bool), (q = decide (192 ≤ b0 ∧ b0 < 224)) → Ev (fun k => bulletinref06_One.j0 k s (p : Int) (b0 : Int) 0 0 q) r := by
    intro q hq
    refine up ?_
    simp only [bulletinref06_One.j0]
    by_cases c2 : 192 ≤ b0 ∧ b0 < 224
    · -- two bytes
      rw [decide_eq_true c2] at hq
      refine pos hq ?_
      refine up ?_
      simp only [bulletinref06_One.j1]
      refine neg (by omega) (up ?_)
      simp only [bulletinref06_One.j2]
      refine neg (by simp) (up ?_)
      simp only [bulletinref06_One.j3]
      refine neg (by omega) (up ?_)
      simp only [bulletinref06_One.j4]
      refine neg (by simp) (up ?_)
      simp only [bulletinref06_One.j5]
      have e : wrap64 ((b0 : Int) - 192) = ((b0 % 32 : Nat) : Int) := by rw [w64 (by omega) (by omega)]; omega
      rw [e]
      refine step_ev s p 2 (b0 % 32) 1 T1 (by omega) (by omega) (by omega) t1 i1 ?_ ?_
      · intro ht
        rw [if_neg (by omega), if_neg (by omega), if_neg (by omega)] at hd
        exact (bad hd).symm
      · intro u hu
        have hok : 1 < n ∧ b1 / 64 = 2 := by rcases g1 with ⟨a, b⟩ | ⟨a, b⟩ <;> omega
        have hu2 : u = b1 % 64 := by omega
        subst hu2
        rw [if_pos ⟨by omega, hok⟩] at hd
        have ev : b0 % 32 * 64 + b1 % 64 = 64 * (b0 % 32) + b1 % 64 := by omega
        rw [ev] at hd
        refine fin_ev s p 2 (64 * (b0 % 32) + b1 % 64) 128 (by omega) rfl (fun c => ?_) (fun c => ?_)
        · rw [if_pos c.1] at hd
          exact (good _ _ hd (by omega)).symm
        · rw [if_neg (by omega)] at hd
          exact (bad hd).symm
    rw [decide_eq_false c2] at hq
    refine neg (by rw [hq]; simp) (up ?_)
    simp only [bulletinref06_One.j1]
    have chain2 : ∀ (q : Bool), (q = decide (224 ≤ b0 ∧ b0 < 240)) → Ev (fun k => bulletinref06_One.j2 k s (p : Int) (b0 : Int) 0 0 q) r := by
      intro q hq
      refine up ?_
      simp only [bulletinref06_One.j2]
      by_cases c3 : 224 ≤ b0 ∧ b0 < 240
      · rw [decide_eq_true c3] at hq
        refine pos hq (up ?_)
        simp only [bulletinref06_One.j3]
        refine neg (by omega) (up ?_)
        simp only [bulletinref06_One.j4]
        refine neg (by simp) (up ?_)
        simp only [bulletinref06_One.j5]
        have e : wrap64 ((b0 : Int) - 224) = ((b0 % 16 : Nat) : Int) := by rw [w64 (by omega) (by omega)]; omega
        rw [e]
        refine step_ev s p 3 (b0 % 16) 1 T1 (by omega) (by omega) (by omega) t1 i1 ?_ ?_
        · intro ht
          rw [if_neg (by omega), if_neg (by omega), if_neg (by omega)] at hd
          exact (bad hd).symm
        · intro u hu
          have hok : 1 < n ∧ b1 / 64 = 2 := by rcases g1 with ⟨a, b⟩ | ⟨a, b⟩ <;> omega
          have hu2 : u = b1 % 64 := by omega
          subst hu2
          refine step_ev s p 3 (64 * (b0 % 16) + b1 % 64) 2 T2 (by omega) (by omega) (by omega) t2 i2 ?_ ?_
          · intro ht
            rw [if_neg (by omega), if_neg (by omega), if_neg (by omega)] at hd
            exact (bad hd).symm
          · intro u hu
            have hok2 : 2 < n ∧ b2 / 64 = 2 := by rcases g2 with ⟨a, b⟩ | ⟨a, b⟩ <;> omega
            have hu2 : u = b2 % 64 := by omega
            subst hu2
            rw [if_neg (by omega), if_pos ⟨by omega, hok, hok2⟩] at hd
            have ev : b0 % 16 * 4096 + b1 % 64 * 64 + b2 % 64 = 64 * (64 * (b0 % 16) + b1 % 64) + b2 % 64 := by omega
            rw [ev] at hd
            refine fin_ev s p 3 (64 * (64 * (b0 % 16) + b1 % 64) + b2 % 64) 2048 (by omega) rfl (fun c => ?_) (fun c => ?_)
            · rw [if_pos c] at hd
              exact (good _ _ hd (by omega)).symm
            · rw [if_neg c] at hd
              exact (bad hd).symm
      rw [decide_eq_false c3] at hq
      refine neg (by rw [hq]; simp) (up ?_)
      simp only [bulletinref06_One.j3]
      have chain3 : ∀ (q : Bool), (q = decide (240 ≤ b0 ∧ b0 < 248)) → Ev (fun k => bulletinref06_One.j4 k s (p : Int) (b0 : Int) 0 0 q) r := by
        intro q hq
        refine up ?_
        simp only [bulletinref06_One.j4]
        by_cases c4 : 240 ≤ b0 ∧ b0 < 248
        · rw [decide_eq_true c4] at hq
          refine pos hq (up ?_)
          simp only [bulletinref06_One.j5]
          have e : wrap64 ((b0 : Int) - 240) = ((b0 % 8 : Nat) : Int) := by rw [w64 (by omega) (by omega)]; omega
          rw [e]
          refine step_ev s p 4 (b0 % 8) 1 T1 (by omega) (by omega) (by omega) t1 i1 ?_ ?_
          · intro ht
            rw [if_neg (by omega), if_neg (by omega), if_neg (by omega)] at hd
            exact (bad hd).symm
          · intro u hu
            have hok : 1 < n ∧ b1 / 64 = 2 := by rcases g1 with ⟨a, b⟩ | ⟨a, b⟩ <;> omega
            have hu2 : u = b1 % 64 := by omega
            subst hu2
            refine step_ev s p 4 (64 * (b0 % 8) + b1 % 64) 2 T2 (by omega) (by omega) (by omega) t2 i2 ?_ ?_
            · intro ht
              rw [if_neg (by omega), if_neg (by omega), if_neg (by omega)] at hd
              exact (bad hd).symm
            · intro u hu
              have hok2 : 2 < n ∧ b2 / 64 = 2 := by rcases g2 with ⟨a, b⟩ | ⟨a, b⟩ <;> omega
              have hu2 : u = b2 % 64 := by omega
              subst hu2
              refine step_ev s p 4 (64 * (64 * (b0 % 8) + b1 % 64) + b2 % 64) 3 T3 (by omega) (by omega) (by omega) t3 i3 ?_ ?_
              · intro ht
                rw [if_neg (by omega), if_neg (by omega), if_neg (by omega)] at hd
                exact (bad hd).symm
              · intro u hu
                have hok3 : 3 < n ∧ b3 / 64 = 2 := by rcases g3 with ⟨a, b⟩ | ⟨a, b⟩ <;> omega
                have hu2 : u = b3 % 64 := by omega
                subst hu2
                rw [if_neg (by omega), if_neg (by omega), if_pos ⟨by omega, hok, hok2, hok3⟩] at hd
                have ev : b0 % 8 * 262144 + b1 % 64 * 4096 + b2 % 64 * 64 + b3 % 64 = 64 * (64 * (64 * (b0 % 8) + b1 % 64) + b2 % 64) + b3 % 64 := by omega
                rw [ev] at hd
                refine fin_ev s p 4 (64 * (64 * (64 * (b0 % 8) + b1 % 64) + b2 % 64) + b3 % 64) 65536 (by omega) rfl (fun c => ?_) (fun c => ?_)
                · rw [if_pos c] at hd
                  exact (good _ _ hd (by omega)).symm
                · rw [if_neg c] at hd
                  exact (bad hd).symm
        · rw [decide_eq_false c4] at hq
          refine neg (by rw [hq]; simp) (up ?_)
          simp only [bulletinref06_One.j5]
          rw [if_neg (by omega), if_neg (by omega), if_neg (by omega)] at hd
          rw [← bad hd]
          refine up ?_
          simp only [bulletinref06_One.l0]
          exact neg (by omega) (cbind rfl (pos True.intro (Ev.now _)))
      by_cases c4 : (b0 : Int) ≥ 240
      · refine pos c4 (chain3 _ ?_)
        congr 1
        exact propext ⟨fun a => ⟨by omega, by omega⟩, fun a => by omega⟩
      · refine neg c4 (chain3 _ ?_)
        rw [decide_eq_false (by omega)]
    by_cases c3 : (b0 : Int) ≥ 224
    · refine pos c3 (chain2 _ ?_)
      congr 1
      exact propext ⟨fun a => ⟨by omega, by omega⟩, fun a => by omega⟩
    · refine neg c3 (chain2 _ ?_)
      rw [decide_eq_false (by omega)]
  by_cases c2 : (b0 : Int) ≥ 192
  · refine pos c2 (chain _ ?_)
    congr 1
    exact propext ⟨fun a => ⟨by omega, by omega⟩, fun a => by omega⟩
  · refine neg c2 (chain _ ?_)
    rw [decide_eq_false (by omega)]

/-! ### Signs, Clip -/
theorem signs_l0 (s : ByteArray) (hs : (L s).length ≤ 1000000000) : ∀ (l : List UInt8) (p : Nat) (acc : List Int), acc.length ≤ p → At s p l → Ev (fun k => bulletinref06_Signs.l0 k s acc (p : Int)) (acc ++ (sg l).map (·.1)) := by
  refine sg_ind ?_ ?_ ?_
  · intro p acc _ h
    refine up ?_
    simp only [bulletinref06_Signs.l0]
    refine neg (by rw [sz, h.nil]; omega) (now' ?_)
    simp [sg_nil]
  · intro v t hv ih p acc ha h
    have hp := h.lt (E_app_ne hv t)
    have hl := E_len v hv
    refine up ?_
    simp only [bulletinref06_Signs.l0]
    refine pos (by rw [sz]; omega) (Ev.bind (refone_ev s hs h (E_app_ne hv t)) (pos (by omega) ?_))
    rw [one_good v hv]
    have e : wrap64 ((p : Int) + ((E v).length : Int)) = ((p + (E v).length : Nat) : Int) := by rw [w64 (by omega) (by omega)]; rfl
    have := ih (p + (E v).length) (acc ++ [(v : Int)]) (by simp; omega) h.next
    rw [sg_E v hv, List.map_cons]
    rw [List.append_assoc] at this
    dsimp only
    rw [e]
    exact this
  · intro c t ho hno ih p acc ha h
    have hp := h.lt (by simp)
    refine up ?_
    simp only [bulletinref06_Signs.l0]
    refine pos (by rw [sz]; omega) (Ev.bind (refone_ev s hs h (by simp)) (pos (by omega) ?_))
    rw [ho, sg_bad c t ho, List.map_cons]
    have e : wrap64 ((p : Int) + ((1 : Nat) : Int)) = ((p + 1 : Nat) : Int) := by rw [w64 (by omega) (by omega)]; rfl
    have := ih (p + 1) (acc ++ [-1]) (by simp; omega) h.tl
    rw [List.append_assoc] at this
    dsimp only
    rw [e]
    exact this
theorem signs_ev (s : ByteArray) (hs : (L s).length ≤ 1000000000) : Ev (fun k => bulletinref06_Signs.f k s) ((sg (L s)).map (·.1)) := by
  have := signs_l0 s hs (L s) 0 [] (by simp) (At.start s)
  rw [List.nil_append] at this
  exact this
theorem refclip_l0 (s : ByteArray) (hs : (L s).length ≤ 1000000000) (n : Int) (hn1 : n ≤ 9223372036854775807) : ∀ (l : List UInt8) (p : Nat) (j : Nat), j ≤ p → At s p l → Ev (fun k => bulletinref06_Clip.l0 k s n (p : Int) (j : Int)) (S ((L s).take p ++ clipL (n - j).toNat l)) := by
  refine sg_ind ?_ ?_ ?_
  · intro p j _ h
    refine up ?_
    simp only [bulletinref06_Clip.l0]
    have e : Ev (fun k => (if 0 ≤ (p : Int) then (if (p : Int) ≤ (s.size : Int) then (some (s.extract 0 ((p : Int) : Int).toNat)) else (none)) else (none))) (S ((L s).take p ++ clipL (n - j).toNat [])) := by
      refine pos (by omega) (pos (by rw [sz, h.nil]; omega) (now' ?_))
      apply L_inj
      rw [L_from_start, L_S, clipL_nil, List.append_nil]
      rfl
    by_cases c : (j : Int) < n
    · exact pos c (neg (by rw [sz, h.nil]; omega) e)
    · exact neg c e
  · intro v t hv ih p j hj h
    have hp := h.lt (E_app_ne hv t)
    have hl := E_len v hv
    refine up ?_
    simp only [bulletinref06_Clip.l0]
    by_cases c : (j : Int) < n
    · refine pos c (pos (by rw [sz]; omega) (Ev.bind (refone_ev s hs h (E_app_ne hv t)) ?_))
      rw [one_good v hv]
      have e : wrap64 ((p : Int) + ((E v).length : Int)) = ((p + (E v).length : Nat) : Int) := by rw [w64 (by omega) (by omega)]; rfl
      obtain ⟨m, hm⟩ : ∃ m : Nat, (n - j).toNat = m + 1 := ⟨(n - j).toNat - 1, by omega⟩
      have := ih (p + (E v).length) (j + 1) (by omega) h.next
      rw [show (n - ((j + 1 : Nat) : Int)).toNat = m from by omega, h.take] at this
      rw [hm, clipL_E m v hv, ← List.append_assoc]
      dsimp only
      rw [e, wi j (by omega)]
      exact this
    · refine neg c (pos (by omega) (pos (by rw [sz]; omega) (now' ?_)))
      rw [show (n - j).toNat = 0 from by omega, clipL_zero, List.append_nil]
      apply L_inj
      rw [L_from_start, L_S]
      rfl
  · intro x t ho hno ih p j hj h
    have hp := h.lt (by simp)
    refine up ?_
    simp only [bulletinref06_Clip.l0]
    by_cases c : (j : Int) < n
    · refine pos c (pos (by rw [sz]; omega) (Ev.bind (refone_ev s hs h (by simp)) ?_))
      rw [ho]
      have e : wrap64 ((p : Int) + ((1 : Nat) : Int)) = ((p + 1 : Nat) : Int) := by rw [w64 (by omega) (by omega)]; rfl
      obtain ⟨m, hm⟩ : ∃ m : Nat, (n - j).toNat = m + 1 := ⟨(n - j).toNat - 1, by omega⟩
      have := ih (p + 1) (j + 1) (by omega) h.tl
      have e2 : (L s).take (p + 1) = (L s).take p ++ [x] := At.take (a := [x]) h
      rw [show (n - ((j + 1 : Nat) : Int)).toNat = m from by omega, e2, List.append_assoc] at this
      rw [hm, clipL_B m x t ho]
      dsimp only
      rw [e, wi j (by omega)]
      exact this
    · refine neg c (pos (by omega) (pos (by rw [sz]; omega) (now' ?_)))
      rw [show (n - j).toNat = 0 from by omega, clipL_zero, List.append_nil]
      apply L_inj
      rw [L_from_start, L_S]
      rfl
theorem refclip_ev (s : ByteArray) (n : Int) (hs : (L s).length ≤ 1000000000) (hn1 : n ≤ 9223372036854775807) : Ev (fun k => bulletinref06_Clip.f k s n) (S (clipL n.toNat (L s))) := by
  have := refclip_l0 s hs n hn1 (L s) 0 0 (by omega) (At.start s)
  rw [List.take_zero, List.nil_append, show (n - ((0 : Nat) : Int)).toNat = n.toNat from by omega] at this
  exact this

/-! ### Fold, Write, Clean, Hex, Spell -/
theorem ext1 (s : ByteArray) (i : Nat) (h : i < (L s).length) : s.extract ((i : Nat) : Int).toNat ((i + 1 : Nat) : Int).toNat = S [(L s)[i]] := by
  apply L_inj
  rw [L_ext, L_S]
  show ((L s).take (i + 1)).drop i = _
  rw [List.take_add_one, List.drop_append_of_le_length (by rw [List.length_take]; omega), List.drop_eq_nil_of_le (by rw [List.length_take]; omega), List.getElem?_eq_getElem h]
  rfl
theorem zS (l : List UInt8) : (S l).size = l.length := by rw [sz, L_S]
theorem reffold_l0 (s : ByteArray) (hs : (L s).length ≤ 1000000000) (d : Nat) : ∀ (i : Nat) (acc : List UInt8), i ≤ (L s).length → (L s).length - i = d → acc.length = i →
    Ev (fun k => bulletinref06_Fold.l0 k s (S acc) (i : Int)) (S (acc ++ ((L s).drop i).map low)) := by
  induction d with
  | zero =>
    intro i acc hi hd _
    refine up ?_
    simp only [bulletinref06_Fold.l0]
    refine neg (by rw [sz]; omega) (now' ?_)
    rw [List.drop_eq_nil_of_le (by omega)]
    simp
  | succ d ih =>
    intro i acc hi hd ha
    have hil : i < (L s).length := by omega
    have hz := zS acc
    refine up ?_
    simp only [bulletinref06_Fold.l0]
    refine pos (by rw [sz]; omega) (pos (by omega) ?_)
    rw [btn s i hil, wi i (by omega), ext1 s i hil]
    rw [List.drop_eq_getElem_cons hil, List.map_cons]
    have next : ∀ T : ByteArray, T = S [low (L s)[i]] → Ev (fun k => bulletinref06_Fold.l0 k s (S acc ++ T) ((i + 1 : Nat) : Int)) (S (acc ++ low (L s)[i] :: ((L s).drop (i + 1)).map low)) := by
      rintro T rfl
      have := ih (i + 1) (acc ++ [low (L s)[i]]) (by omega) (by omega) (by simp; omega)
      rw [List.append_assoc] at this
      rw [S_app]
      exact this
    have hx := (L s)[i].toNat_lt
    have plain : ¬ (65 ≤ (L s)[i].toNat ∧ (L s)[i].toNat ≤ 90) → Ev (fun k => (if (i : Int) ≤ ((i + 1 : Nat) : Int) then (if ((i + 1 : Nat) : Int) ≤ (s.size : Int) then (if (S acc).size + (S [(L s)[i]]).size ≤ 9223372036854775807 then (bulletinref06_Fold.l0 k s (S acc ++ S [(L s)[i]]) ((i + 1 : Nat) : Int)) else (none)) else (none)) else (none))) (S (acc ++ low (L s)[i] :: ((L s).drop (i + 1)).map low)) := by
      intro hc
      have z1 : (S [(L s)[i]]).size = 1 := rfl
      refine pos (by omega) (pos (by rw [sz]; omega) (pos (by omega) (next _ ?_)))
      unfold low
      rw [if_neg hc]
    by_cases c1 : 65 ≤ (L s)[i].toNat
    · refine pos (by omega) ?_
      by_cases c2 : (L s)[i].toNat ≤ 90
      · refine pos (by omega) (cbind rfl ?_)
        have e : strOfNums [((L s)[i].toNat + 32 : Int) % 256] = S [low (L s)[i]] := by
          rw [nums_eq]
          unfold low
          rw [if_pos ⟨c1, c2⟩]
          congr 1
          simp only [List.map_cons, List.map_nil]
          congr 2
          omega
        rw [e]
        have z1 : (S [low (L s)[i]]).size = 1 := rfl
        exact pos (by omega) (next _ rfl)
      · exact neg (by omega) (plain (by omega))
    · exact neg (by omega) (plain (by omega))
theorem reffold_ev (s : ByteArray) (hs : (L s).length ≤ 1000000000) : Ev (fun k => bulletinref06_Fold.f k s) (S (foldL (L s))) := by
  have := reffold_l0 s hs (L s).length 0 [] (by omega) (by omega) rfl
  rw [List.drop_zero, List.nil_append] at this
  exact this
theorem by8 (x : Int) (a : UInt8) (e : x = (a.toNat : Int)) : UInt8.ofNat x.toNat = a := by rw [e]; simp
theorem n1 (x : Int) (a : UInt8) (hx : x = (a.toNat : Int)) : strOfNums [x] = S [a] := by rw [nums_eq]; simp only [List.map_cons, List.map_nil, by8 x a hx]
theorem n2 (x y : Int) (a b : UInt8) (hx : x = (a.toNat : Int)) (hy : y = (b.toNat : Int)) : strOfNums [x, y] = S [a, b] := by rw [nums_eq]; simp only [List.map_cons, List.map_nil, by8 x a hx, by8 y b hy]
theorem n3 (x y z : Int) (a b c : UInt8) (hx : x = (a.toNat : Int)) (hy : y = (b.toNat : Int)) (hz : z = (c.toNat : Int)) : strOfNums [x, y, z] = S [a, b, c] := by rw [nums_eq]; simp only [List.map_cons, List.map_nil, by8 x a hx, by8 y b hy, by8 z c hz]
theorem n4 (x y z u : Int) (a b c d : UInt8) (hx : x = (a.toNat : Int)) (hy : y = (b.toNat : Int)) (hz : z = (c.toNat : Int)) (hu : u = (d.toNat : Int)) : strOfNums [x, y, z, u] = S [a, b, c, d] := by rw [nums_eq]; simp only [List.map_cons, List.map_nil, by8 x a hx, by8 y b hy, by8 z c hz, by8 u d hu]
theorem write_eq (v : Nat) (h : V v) : bulletinref06_Write.f (v : Int) = some (S (E v)) := by
  have hv : v ≤ 1114111 := by unfold V at h; omega
  unfold bulletinref06_Write.f
  rcases E_cases v h with ⟨h1, a, e, ha⟩ | ⟨h1, h2, a, b, e, ha, hb⟩ | ⟨h1, h2, a, b, c, e, ha, hb, hc⟩ | ⟨h1, h2, a, b, c, d, e, ha, hb, hc, hd⟩
  · rw [if_pos (by omega), e]
    exact congrArg some (n1 _ a (by omega))
  · rw [if_neg (by omega), if_pos (by omega), e]
    rw [show Int.tdiv (v : Int) 64 = ((v / 64 : Nat) : Int) from rfl, show Int.tmod (v : Int) 64 = ((v % 64 : Nat) : Int) from rfl, w64 (x := ((v / 64 : Nat) : Int)) (by omega) (by omega), w64 (by omega) (by omega), w64 (by omega) (by omega)]
    exact congrArg some (n2 _ _ a b (by omega) (by omega))
  · rw [if_neg (by omega), if_neg (by omega), if_pos (by omega), e]
    rw [show Int.tdiv (v : Int) 4096 = ((v / 4096 : Nat) : Int) from rfl, show Int.tdiv (v : Int) 64 = ((v / 64 : Nat) : Int) from rfl, show Int.tmod (v : Int) 64 = ((v % 64 : Nat) : Int) from rfl, w64 (x := ((v / 64 : Nat) : Int)) (by omega) (by omega), show Int.tmod ((v / 64 : Nat) : Int) 64 = ((v / 64 % 64 : Nat) : Int) from rfl, w64 (x := ((v / 4096 : Nat) : Int)) (by omega) (by omega), w64 (by omega) (by omega), w64 (by omega) (by omega), w64 (by omega) (by omega)]
    exact congrArg some (n3 _ _ _ a b c (by omega) (by omega) (by omega))
  · rw [if_neg (by omega), if_neg (by omega), if_neg (by omega), e]
    rw [show Int.tdiv (v : Int) 262144 = ((v / 262144 : Nat) : Int) from rfl, show Int.tdiv (v : Int) 4096 = ((v / 4096 : Nat) : Int) from rfl, show Int.tdiv (v : Int) 64 = ((v / 64 : Nat) : Int) from rfl, show Int.tmod (v : Int) 64 = ((v % 64 : Nat) : Int) from rfl, w64 (x := ((v / 64 : Nat) : Int)) (by omega) (by omega), w64 (x := ((v / 4096 : Nat) : Int)) (by omega) (by omega), show Int.tmod ((v / 64 : Nat) : Int) 64 = ((v / 64 % 64 : Nat) : Int) from rfl, show Int.tmod ((v / 4096 : Nat) : Int) 64 = ((v / 4096 % 64 : Nat) : Int) from rfl, w64 (x := ((v / 262144 : Nat) : Int)) (by omega) (by omega), w64 (by omega) (by omega), w64 (by omega) (by omega), w64 (by omega) (by omega), w64 (by omega) (by omega)]
    exact congrArg some (n4 _ _ _ _ a b c d (by omega) (by omega) (by omega) (by omega))
/-- the numbers that Signs tells -/
def G (x : Int) : Prop := x = -1 ∨ ∃ v : Nat, V v ∧ x = (v : Int)
theorem sg_G : ∀ l : List UInt8, ∀ x ∈ sg l, G x.1 := by
  refine sg_ind (by simp [sg_nil]) ?_ ?_
  · intro v t hv ih
    rw [sg_E v hv]
    intro x hx
    rcases List.mem_cons.1 hx with rfl | h
    · exact Or.inr ⟨v, hv, rfl⟩
    · exact ih x h
  · intro c t ho _ ih
    rw [sg_bad c t ho]
    intro x hx
    rcases List.mem_cons.1 hx with rfl | h
    · exact Or.inl rfl
    · exact ih x h
theorem cl_V (x : Int) (h : G x) : V (cl x) := by
  unfold cl
  rcases h with rfl | ⟨v, hv, rfl⟩
  · rw [if_pos (by omega)]; unfold V; omega
  · rw [if_neg (by omega)]
    split
    · unfold V; omega
    · rw [Int.toNat_natCast]; exact hv
theorem refclean_l0 (X : List Int) (hX : ∀ x ∈ X, G x) (hs : X.length ≤ 1000000000) (d : Nat) : ∀ (i : Nat) (acc : List UInt8), i ≤ X.length → X.length - i = d → acc.length ≤ 4 * i →
    Ev (fun k => bulletinref06_Clean.l0 k X (S acc) (i : Int)) (S (acc ++ (X.drop i).flatMap (fun x => E (cl x)))) := by
  induction d with
  | zero =>
    intro i acc hi hd _
    refine up ?_
    simp only [bulletinref06_Clean.l0]
    refine neg (by omega) (now' ?_)
    rw [List.drop_eq_nil_of_le (by omega)]
    simp
  | succ d ih =>
    intro i acc hi hd ha
    have hil : i < X.length := by omega
    have hz := zS acc
    have hg := hX X[i] (List.getElem_mem hil)
    have hv := cl_V X[i] hg
    have hl := E_len _ hv
    refine up ?_
    simp only [bulletinref06_Clean.l0]
    refine pos (by omega) (pos (by omega) ?_)
    have hr : rd X (i : Int) = X[i] := by simp [rd, hil]
    rw [hr, wi i (by omega), List.drop_eq_getElem_cons hil, List.flatMap_cons]
    clear hr
    generalize X[i] = x at hg hv hl ⊢
    have next : ∀ y : Int, y = ((cl x : Nat) : Int) → Ev (fun k => (bulletinref06_Write.f y).bind fun t => (if (S acc).size + t.size ≤ 9223372036854775807 then (bulletinref06_Clean.l0 k X (S acc ++ t) ((i + 1 : Nat) : Int)) else (none))) (S (acc ++ (E (cl x) ++ (X.drop (i + 1)).flatMap (fun x => E (cl x))))) := by
      rintro y rfl
      refine cbind (write_eq _ hv) (pos (by rw [zS, zS]; omega) ?_)
      have := ih (i + 1) (acc ++ E (cl x)) (by omega) (by omega) (by rw [List.length_append]; omega)
      rw [List.append_assoc] at this
      rw [S_app]
      exact this
    rcases hg with e | ⟨v, hV, e⟩
    · refine pos e ?_
      have ec : cl x = 65533 := by rw [e]; rfl
      exact neg (by omega) (pos (by omega) (neg (by omega) (next 65533 (by rw [ec]; rfl))))
    · have ec : cl x = if control (v : Int) = true then 32 else v := by
        rw [e]; unfold cl; rw [if_neg (by omega), Int.toNat_natCast]
      subst e
      have hcon : control (v : Int) = (decide ((v : Int) < 32) || (decide (127 ≤ (v : Int)) && decide ((v : Int) ≤ 159))) := rfl
      refine neg (by omega) ?_
      by_cases c1 : (v : Int) < 32
      · rw [decide_eq_true c1] at hcon
        rw [hcon, if_pos (by rfl)] at ec
        exact pos c1 (next 32 (by rw [ec]; rfl))
      refine neg c1 ?_
      by_cases c2 : (v : Int) ≥ 127
      · refine pos c2 ?_
        by_cases c3 : (v : Int) ≤ 159
        · rw [decide_eq_false c1, decide_eq_true (show 127 ≤ (v : Int) from c2), decide_eq_true c3] at hcon
          rw [hcon, if_pos (by rfl)] at ec
          exact pos c3 (next 32 (by rw [ec]; rfl))
        · rw [decide_eq_false c1, decide_eq_true (show 127 ≤ (v : Int) from c2), decide_eq_false c3] at hcon
          rw [hcon, if_neg (by simp)] at ec
          exact neg c3 (next _ (by rw [ec]))
      · rw [decide_eq_false c1, decide_eq_false (show ¬ 127 ≤ (v : Int) from c2)] at hcon
        rw [hcon, if_neg (by simp)] at ec
        exact neg c2 (next _ (by rw [ec]))
theorem sg_flat_fst (f : Int → List UInt8) (l : List UInt8) : ((sg l).map (·.1)).flatMap f = (sg l).flatMap (fun x => f x.1) := by
  rw [List.flatMap_map]
theorem sgm_G (l : List UInt8) : ∀ x ∈ (sg l).map (·.1), G x := by
  intro x hx
  obtain ⟨y, hy, rfl⟩ := List.mem_map.1 hx
  exact sg_G l y hy
theorem refclean_ev (s : ByteArray) (hs : (L s).length ≤ 1000000000) : Ev (fun k => bulletinref06_Clean.f k s) (S (cleanL (L s))) := by
  unfold bulletinref06_Clean.f
  refine Ev.bind (signs_ev s hs) ?_
  have hl := sg_len (L s)
  have := refclean_l0 ((sg (L s)).map (·.1)) (sgm_G (L s)) (by rw [List.length_map]; omega) _ 0 [] (by omega) rfl (by simp)
  rw [List.drop_zero, List.nil_append, sg_flat_fst] at this
  exact this
theorem hx_eq : ∀ m : Nat, m < 16 → (⟨#[48, 49, 50, 51, 52, 53, 54, 55, 56, 57, 97, 98, 99, 100, 101, 102]⟩ : ByteArray).extract ((m : Nat) : Int).toNat ((m + 1 : Nat) : Int).toNat = S [hexd m] := by
  intro m hm
  have h : ∀ m : Nat, m < 16 → L ((⟨#[48, 49, 50, 51, 52, 53, 54, 55, 56, 57, 97, 98, 99, 100, 101, 102]⟩ : ByteArray).extract ((m : Nat) : Int).toNat ((m + 1 : Nat) : Int).toNat) = [hexd m] := by decide +kernel
  apply L_inj
  rw [L_S]
  exact h m hm
theorem refhex_l0 (d : Nat) : ∀ (n : Nat) (acc : List UInt8) (i : Nat), n < 16 ^ d → n ≤ 2147483647 → acc.length + d ≤ 1000 → 0 < d → i + d ≤ 16 → (i ≠ 0 → n ≠ 0) → Ev (fun k => bulletinref06_Hex.l0 k (n : Int) (S acc) (i : Int)) (S (hexL d n acc)) := by
  induction d with
  | zero => intro n acc i _ _ _ h; omega
  | succ d ih =>
    intro n acc i hn hn2 ha _ hi h0
    have hm : n % 16 < 16 := Nat.mod_lt _ (by omega)
    refine up ?_
    simp only [bulletinref06_Hex.l0]
    rw [show Int.tmod (n : Int) 16 = ((n % 16 : Nat) : Int) from rfl, show Int.tdiv (n : Int) 16 = ((n / 16 : Nat) : Int) from rfl, wi (n % 16) (by omega), hx_eq _ hm, wi i (by omega), w64 (x := ((n / 16 : Nat) : Int)) (by omega) (by omega), S_app]
    have z1 : (S [hexd (n % 16)]).size = 1 := rfl
    have z2 := zS acc
    have body : Ev (fun k => (if 0 ≤ ((n % 16 : Nat) : Int) then (if ((n % 16 : Nat) : Int) ≤ ((n % 16 + 1 : Nat) : Int) then (if ((n % 16 + 1 : Nat) : Int) ≤ 16 then (if (S [hexd (n % 16)]).size + (S acc).size ≤ 9223372036854775807 then (bulletinref06_Hex.l0 k ((n / 16 : Nat) : Int) (S ([hexd (n % 16)] ++ acc)) ((i + 1 : Nat) : Int)) else (none)) else (none)) else (none)) else (none))) (S (hexL (d + 1) n acc)) := by
      refine pos (by omega) (pos (by omega) (pos (by omega) (pos (by omega) ?_)))
      simp only [hexL]
      by_cases hz : n / 16 = 0
      · rw [if_pos hz, hz]
        refine up ?_
        simp only [bulletinref06_Hex.l0]
        exact neg (by omega) (neg (by omega) (Ev.now _))
      · rw [if_neg hz]
        have hd : 0 < d := by
          rcases Nat.eq_zero_or_pos d with rfl | h
          · rw [Nat.zero_add, Nat.pow_one] at hn
            omega
          · exact h
        refine ih (n / 16) (hexd (n % 16) :: acc) (i + 1) ?_ (by omega) (by simp only [List.length_cons]; omega) hd (by omega) (fun _ => hz)
        rw [Nat.pow_succ] at hn
        omega
    by_cases hi0 : i = 0
    · exact pos (by omega) body
    · have := h0 hi0
      exact neg (by omega) (pos (by omega) (pos (by omega) body))
theorem refhex_ev (n : Nat) (hn : n ≤ 2147483647) : Ev (fun k => bulletinref06_Hex.f k (n : Int)) (S (hexOf n)) := refhex_l0 8 n [] 0 (by omega) hn (by simp) (by omega) (by omega) (fun h => absurd rfl h)
theorem refspell_l0 (X : List Int) (hX : ∀ x ∈ X, G x) (hs : X.length ≤ 100000000) (d : Nat) : ∀ (i : Nat) (acc : List UInt8), i ≤ X.length → X.length - i = d → acc.length ≤ 10 * i →
    Ev (fun k => bulletinref06_Spell.l0 k X (S acc) (i : Int)) (S (acc ++ (X.drop i).flatMap sp)) := by
  induction d with
  | zero =>
    intro i acc hi hd _
    refine up ?_
    simp only [bulletinref06_Spell.l0]
    refine neg (by omega) (now' ?_)
    rw [List.drop_eq_nil_of_le (by omega)]
    simp
  | succ d ih =>
    intro i acc hi hd ha
    have hil : i < X.length := by omega
    have hz := zS acc
    have hg := hX X[i] (List.getElem_mem hil)
    have hsp : X[i] < 0 ∨ V X[i].toNat := by
      rcases hg with e | ⟨v, hv, e⟩
      · left; omega
      · right; rw [e]; exact hv
    have hl : (sp X[i]).length ≤ 10 := sp_len _ hsp
    clear hsp
    refine up ?_
    simp only [bulletinref06_Spell.l0]
    refine pos (by omega) (pos (by omega) ?_)
    have hr : rd X (i : Int) = X[i] := by simp [rd, hil]
    rw [hr, wi i (by omega), List.drop_eq_getElem_cons hil, List.flatMap_cons]
    have next : ∀ T : List UInt8, T = sp X[i] → Ev (fun k => bulletinref06_Spell.l0 k X (S (acc ++ T)) ((i + 1 : Nat) : Int)) (S (acc ++ (sp X[i] ++ (X.drop (i + 1)).flatMap sp))) := by
      rintro T rfl
      have := ih (i + 1) (acc ++ sp X[i]) (by omega) (by omega) (by rw [List.length_append]; omega)
      rw [List.append_assoc] at this
      exact this
    rcases hg with e | ⟨v, hV, e⟩
    · refine pos e (pos (by omega) ?_)
      have e5 : (⟨#[123, 98, 97, 100, 125]⟩ : ByteArray) = S [123, 98, 97, 100, 125] := rfl
      rw [e5, S_app]
      exact next _ (by rw [e]; rfl)
    · rw [e] at next hl ⊢
      refine neg (by omega) ?_
      have hv2 : v ≤ 1114111 := by unfold V at hV; omega
      have j1 : ∀ q : Bool, q = decide (32 ≤ (v : Int) ∧ (v : Int) ≤ 126 ∧ (v : Int) ≠ 123) → Ev (fun k => bulletinref06_Spell.j1 k X (S acc) (i : Int) (v : Int) q) (S (acc ++ (sp (v : Int) ++ (X.drop (i + 1)).flatMap sp))) := by
        rintro q rfl
        refine up ?_
        simp only [bulletinref06_Spell.j1]
        rw [wi i (by omega)]
        by_cases hc : 32 ≤ (v : Int) ∧ (v : Int) ≤ 126 ∧ (v : Int) ≠ 123
        · refine pos (by rw [decide_eq_true hc]) (cbind (write_eq v hV) (pos ?_ ?_))
          · rw [zS, zS]; have := (E_len v hV).2; omega
          · rw [S_app]
            refine next _ ?_
            unfold sp
            rw [if_neg (by omega), if_pos hc]
            rfl
        · have hh := hexL_len 8 v []
          have hl2 : (hexOf v).length ≤ 8 := by unfold hexOf; simpa using hh
          have e1 : (⟨#[123]⟩ : ByteArray) = S [123] := rfl
          have e2 : (⟨#[125]⟩ : ByteArray) = S [125] := rfl
          refine neg (by rw [decide_eq_false hc]; simp) (pos (by omega) (Ev.bind (refhex_ev v (by omega)) ?_))
          rw [e1, e2, S_app, S_app, S_app]
          have z3 : (S (acc ++ [123])).size = acc.length + 1 := by rw [zS]; simp
          have z4 : (S (acc ++ [123] ++ hexOf v)).size = acc.length + 1 + (hexOf v).length := by rw [zS]; simp; omega
          have z5 := zS (hexOf v)
          refine pos (by omega) (pos (by omega) ?_)
          rw [List.append_assoc, List.append_assoc]
          refine next _ ?_
          unfold sp
          rw [if_neg (by omega), if_neg hc]
          rfl
      by_cases c1 : (v : Int) ≥ 32
      · refine pos c1 ?_
        by_cases c2 : (v : Int) ≤ 126
        · refine pos c2 (j1 _ ?_)
          rw [Bool.eq_iff_iff, bne_iff_ne]
          simp only [decide_eq_true_eq]
          omega
        · refine neg c2 (j1 _ ?_)
          rw [decide_eq_false (by omega)]
      · refine neg c1 (j1 _ ?_)
        rw [decide_eq_false (by omega)]
theorem refspell_ev (s : ByteArray) (hs : (L s).length ≤ 100000000) : Ev (fun k => bulletinref06_Spell.f k s) (S (spellL (L s))) := by
  unfold bulletinref06_Spell.f
  refine Ev.bind (signs_ev s (by omega)) ?_
  have hl := sg_len (L s)
  have := refspell_l0 ((sg (L s)).map (·.1)) (sgm_G (L s)) (by rw [List.length_map]; omega) _ 0 [] (by omega) rfl (by simp)
  rw [List.drop_zero, List.nil_append, sg_flat_fst] at this
  exact this

/-! ### Words -/
def blk (c : UInt8) : Bool := c == 32 || c == 9 || c == 13 || c == 10
def wd (cur : List UInt8) : List UInt8 → List (List UInt8)
  | [] => if cur = [] then [] else [cur]
  | c :: t => if blk c = true then (if cur = [] then wd [] t else cur :: wd [] t) else wd (cur ++ [c]) t
theorem wd_app (t : List UInt8) : ∀ (w cur : List UInt8), (∀ c ∈ w, blk c = false) → wd cur (w ++ t) = wd (cur ++ w) t
  | [], cur, _ => by simp
  | c :: w, cur, h => by
    rw [List.cons_append]
    simp only [wd]
    rw [if_neg (by rw [h c (by simp)]; simp), wd_app t w (cur ++ [c]) (fun x hx => h x (by simp [hx])), List.append_assoc]
    rfl
theorem refwords_l0 (s : ByteArray) (hs : (L s).length ≤ 1000000000) (d : Nat) : ∀ (i : Nat) (acc : List ByteArray) (cur : List UInt8), i ≤ (L s).length → (L s).length - i = d → acc.length ≤ i → cur.length ≤ i →
    Ev (fun k => bulletinref06_Words.l0 k s acc (S cur) (i : Int)) (acc ++ (wd cur ((L s).drop i)).map S) := by
  have cut : ∀ (i : Nat) (acc : List ByteArray) (cur : List UInt8) (r : List ByteArray), i < 2000000000 → acc.length ≤ i → Ev (fun k => bulletinref06_Words.l0 k s (acc ++ (if cur = [] then [] else [S cur])) (S []) ((i + 1 : Nat) : Int)) r → Ev (fun k => bulletinref06_Words.j1 k s acc (S cur) (i : Int) false) r := by
    intro i acc cur r hi ha h
    refine up ?_
    simp only [bulletinref06_Words.j1]
    refine neg (by simp) ?_
    rw [wi i (by omega)]
    by_cases hc : cur = []
    · rw [if_pos hc, List.append_nil] at h
      exact pos (by rw [tl, L_S, hc]) h
    · rw [if_neg hc] at h
      exact neg (by rw [tl, L_S]; exact hc) (pos (by omega) h)
  induction d with
  | zero =>
    intro i acc cur hi hd ha hcl
    refine up ?_
    simp only [bulletinref06_Words.l0]
    refine pos (by rw [sz]; omega) (neg (by rw [sz]; omega) (cut i acc cur _ (by omega) ha ?_))
    refine up ?_
    simp only [bulletinref06_Words.l0]
    refine neg (by rw [sz]; omega) (now' ?_)
    rw [List.drop_eq_nil_of_le (by omega)]
    simp only [wd]
    by_cases hc : cur = []
    · rw [if_pos hc, if_pos hc]; rfl
    · rw [if_neg hc, if_neg hc]; rfl
  | succ d ih =>
    intro i acc cur hi hd ha hcl
    have hil : i < (L s).length := by omega
    have hz := zS cur
    refine up ?_
    simp only [bulletinref06_Words.l0]
    refine pos (by rw [sz]; omega) (pos (by rw [sz]; omega) (pos (by omega) ?_))
    rw [btn s i hil, List.drop_eq_getElem_cons hil]
    simp only [wd]
    have yes : blk (L s)[i] = true → Ev (fun k => bulletinref06_Words.j1 k s acc (S cur) (i : Int) false) (acc ++ (if blk (L s)[i] = true then (if cur = [] then wd [] ((L s).drop (i + 1)) else cur :: wd [] ((L s).drop (i + 1))) else wd (cur ++ [(L s)[i]]) ((L s).drop (i + 1))).map S) := by
      intro hb
      refine cut i acc cur _ (by omega) ha ?_
      rw [if_pos hb]
      by_cases hc : cur = []
      · rw [if_pos hc, if_pos hc, List.append_nil]
        exact ih (i + 1) acc [] (by omega) (by omega) (by omega) (by simp)
      · rw [if_neg hc, if_neg hc]
        have := ih (i + 1) (acc ++ [S cur]) [] (by omega) (by omega) (by simp; omega) (by simp)
        rw [List.append_assoc] at this
        exact this
    by_cases h1 : (L s)[i] = 32
    · exact pos (by rw [h1]; rfl) (yes (by rw [h1]; rfl))
    refine neg (fun e => h1 (u8i (d := 32) e)) ?_
    by_cases h2 : (L s)[i] = 9
    · exact pos (by rw [h2]; rfl) (yes (by rw [h2]; rfl))
    refine neg (fun e => h2 (u8i (d := 9) e)) ?_
    by_cases h3 : (L s)[i] = 13
    · exact pos (by rw [h3]; rfl) (yes (by rw [h3]; rfl))
    refine neg (fun e => h3 (u8i (d := 13) e)) ?_
    by_cases h4 : (L s)[i] = 10
    · have e : (((L s)[i].toNat : Int) != 10) = false := by rw [h4]; rfl
      rw [e]
      exact yes (by rw [h4]; rfl)
    have e : (((L s)[i].toNat : Int) != 10) = true := by rw [bne_iff_ne]; exact fun e => h4 (u8i (d := 10) e)
    have hb : ¬ blk (L s)[i] = true := by
      unfold blk
      rw [beq_eq_false_iff_ne.2 h1, beq_eq_false_iff_ne.2 h2, beq_eq_false_iff_ne.2 h3, beq_eq_false_iff_ne.2 h4]
      simp
    rw [e, if_neg hb]
    refine up ?_
    simp only [bulletinref06_Words.j1]
    rw [wi i (by omega), ext1 s i hil, S_app]
    have z1 : (S [(L s)[i]]).size = 1 := rfl
    refine pos True.intro (pos (by omega) (pos (by omega) (pos (by rw [sz]; omega) (pos (by omega) ?_))))
    exact ih (i + 1) acc (cur ++ [(L s)[i]]) (by omega) (by omega) (by omega) (by simp; omega)
def wordsL (l : List UInt8) : List (List UInt8) := wd [] l
theorem refwords_ev (s : ByteArray) (hs : (L s).length ≤ 1000000000) : Ev (fun k => bulletinref06_Words.f k s) ((wordsL (L s)).map S) := by
  have := refwords_l0 s hs (L s).length 0 [] [] (by omega) (by omega) (by simp) (by simp)
  rw [List.drop_zero, List.nil_append] at this
  exact this
theorem blk_E (v : Nat) (hv : V v) : (glyph_isBlank v = true → ∃ a : UInt8, E v = [a] ∧ blk a = true) ∧ (glyph_isBlank v = false → ∀ c ∈ E v, blk c = false) := by
  have bb : ∀ c : UInt8, blk c = glyph_isBlank c.toNat := all8 (by decide +kernel)
  have hb : ∀ m : Nat, 128 ≤ m → glyph_isBlank m = false := by
    intro m hm
    unfold glyph_isBlank
    simp only [Bool.or_eq_false_iff, beq_eq_false_iff_ne]
    omega
  rcases E_cases v hv with ⟨h1, a, e, ha⟩ | ⟨h1, h2, a, b, e, ha, hb'⟩ | ⟨h1, h2, a, b, c, e, ha, hb', hc⟩ | ⟨h1, h2, a, b, c, d, e, ha, hb', hc, hd⟩
  · refine ⟨fun h => ⟨a, e, by rw [bb, ha, h]⟩, fun h c hc => ?_⟩
    rw [e] at hc
    rw [List.mem_singleton.1 hc, bb, ha, h]
  · refine ⟨fun h => by rw [hb v (by omega)] at h; simp at h, fun _ x hx => ?_⟩
    rw [e] at hx
    rw [bb]
    simp only [List.mem_cons, List.not_mem_nil, or_false] at hx
    rcases hx with rfl | rfl <;> exact hb _ (by omega)
  · refine ⟨fun h => by rw [hb v (by omega)] at h; simp at h, fun _ x hx => ?_⟩
    rw [e] at hx
    rw [bb]
    simp only [List.mem_cons, List.not_mem_nil, or_false] at hx
    rcases hx with rfl | rfl | rfl <;> exact hb _ (by omega)
  · refine ⟨fun h => by rw [hb v (by omega)] at h; simp at h, fun _ x hx => ?_⟩
    rw [e] at hx
    rw [bb]
    simp only [List.mem_cons, List.not_mem_nil, or_false] at hx
    rcases hx with rfl | rfl | rfl | rfl <;> exact hb _ (by omega)
theorem E_byte (c : UInt8) (h : c.toNat < 128) : E c.toNat = [c] := by
  have hv : V c.toNat := by unfold V; omega
  rcases E_cases c.toNat hv with ⟨_, a, e, ha⟩ | ⟨h1, _⟩ | ⟨h1, _⟩ | ⟨h1, _⟩
  · rw [e, UInt8.toNat_inj.1 ha]
  all_goals omega
theorem bad_not_blk (c : UInt8) (t : List UInt8) (hno : ∀ v u, V v → c :: t ≠ E v ++ u) : blk c = false := by
  rcases Nat.lt_or_ge c.toNat 128 with h | h
  · exact absurd (by rw [E_byte c h]; rfl) (hno c.toNat t (by unfold V; omega))
  · have bb : ∀ c : UInt8, 128 ≤ c.toNat → blk c = false := all8 (by decide +kernel)
    exact bb c h
def curOf (s : ByteArray) (p : Nat) : Option Nat → List UInt8
  | none => []
  | some a => ((L s).take p).drop a
theorem curOf_ne {s : ByteArray} {p a : Nat} (hp : p ≤ (L s).length) (h : a < p) : curOf s p (some a) ≠ [] := by
  unfold curOf
  intro e
  have := congrArg List.length e
  rw [List.length_drop, List.length_take, List.length_nil] at this
  omega
theorem ext_cur (s : ByteArray) (a p : Nat) : s.extract a p = S (curOf s p (some a)) := by
  apply L_inj
  rw [L_ext, L_S]
  rfl
theorem spans_wd (s : ByteArray) : ∀ (l : List UInt8) (p f : Nat) (st : Option Nat) (acc : List (Nat × Nat)), At s p l → l.length ≤ f → (∀ a, st = some a → a < p) →
    (Go.Lib.closeSpans s (Go.Lib.spansFromP glyph_isBlank s f p st acc)).map (fun x => s.extract x.1 x.2) = acc.map (fun x => s.extract x.1 x.2) ++ (wd (curOf s p st) l).map S := by
  have more : ∀ (p f : Nat) (st : Option Nat) (acc : List (Nat × Nat)) (w t : List UInt8), At s p (w ++ t) → w ≠ [] → (∀ a, st = some a → a < p) → (∀ c ∈ w, blk c = false) →
      (∀ a, some (st.getD p) = some a → a < p + w.length) ∧ wd (curOf s (p + w.length) (some (st.getD p))) t = wd (curOf s p st) (w ++ t) := by
    intro p f st acc w t h hw hst hb
    have hl := List.length_pos_iff.2 hw
    have hp := h.le
    cases st with
    | none =>
      refine ⟨fun a e => by obtain rfl := Option.some.inj e; show p < _; omega, ?_⟩
      rw [wd_app t w _ hb]
      congr 1
      show ((L s).take (p + w.length)).drop p = [] ++ w
      rw [h.take, List.drop_append_of_le_length (by rw [List.length_take]; omega), List.drop_eq_nil_of_le (by rw [List.length_take]; omega)]
    | some a =>
      have ha := hst a rfl
      refine ⟨fun a' e => by obtain rfl := Option.some.inj e; show a < _; omega, ?_⟩
      rw [wd_app t w _ hb]
      congr 1
      show ((L s).take (p + w.length)).drop a = ((L s).take p).drop a ++ w
      rw [h.take, List.drop_append_of_le_length (by rw [List.length_take]; omega)]
  refine sg_ind ?_ ?_ ?_
  · intro p f st acc h hf hst
    have hp := h.nil
    rw [Go.Lib.spansFromP_end _ _ _ _ _ _ (by rw [sz]; omega)]
    cases st with
    | none => simp [Go.Lib.closeSpans, curOf, wd]
    | some a =>
      have ha := hst a rfl
      have hne := curOf_ne h.le ha
      have e := ext_cur s a p
      simp only [Go.Lib.closeSpans, wd, if_neg hne]
      rw [List.map_append]
      congr 1
      show [s.extract a s.size] = _
      rw [sz, ← hp, e]
      rfl
  · intro v t hv ih p f st acc h hf hst
    have hl := E_len v hv
    rw [List.length_append] at hf
    obtain ⟨f, rfl⟩ : ∃ g, f = g + 1 := ⟨f - 1, by omega⟩
    have hp := h.lt (E_app_ne hv t)
    unfold Go.Lib.spansFromP
    rw [if_pos (by rw [sz]; exact hp), dec_E h hv]
    dsimp only
    cases hb : glyph_isBlank v with
    | true =>
      obtain ⟨a, e, hba⟩ := (blk_E v hv).1 hb
      rw [if_pos rfl]
      have e2 : wd (curOf s p st) (E v ++ t) = if curOf s p st = [] then wd [] t else curOf s p st :: wd [] t := by
        rw [e]
        show wd _ (a :: t) = _
        simp only [wd, if_pos hba]
      rw [e2]
      cases st with
      | none =>
        dsimp only
        rw [ih _ f none acc h.next (by omega) (by simp), if_pos (by rfl)]
        rfl
      | some b =>
        have hb2 := hst b rfl
        dsimp only
        rw [ih _ f none _ h.next (by omega) (by simp), if_neg (curOf_ne h.le hb2), List.map_append, List.append_assoc]
        congr 1
        show s.extract b p :: _ = _
        rw [ext_cur]
        rfl
    | false =>
      rw [if_neg (by simp)]
      obtain ⟨h1, h2⟩ := more p f st acc (E v) t h (E_ne v hv) hst ((blk_E v hv).2 hb)
      cases st with
      | none => exact (ih _ f (some p) acc h.next (by omega) h1).trans (by rw [← h2]; rfl)
      | some a => exact (ih _ f (some a) acc h.next (by omega) h1).trans (by rw [← h2]; rfl)
  · intro c t ho hno ih p f st acc h hf hst
    rw [List.length_cons] at hf
    obtain ⟨f, rfl⟩ : ∃ g, f = g + 1 := ⟨f - 1, by omega⟩
    have hp := h.lt (by simp)
    unfold Go.Lib.spansFromP
    rw [if_pos (by rw [sz]; exact hp), dec_B h ho]
    dsimp only
    rw [if_neg (by decide)]
    obtain ⟨h1, h2⟩ := more p f st acc [c] t h (by simp) hst (fun x hx => by rw [List.mem_singleton.1 hx]; exact bad_not_blk c t hno)
    have h3 : wd (curOf s (p + 1) (some (st.getD p))) t = wd (curOf s p st) (c :: t) := h2
    clear h2
    cases st with
    | none => exact (ih (p + 1) f (some p) acc h.tl (by omega) h1).trans (by rw [← h3]; rfl)
    | some a => exact (ih (p + 1) f (some a) acc h.tl (by omega) h1).trans (by rw [← h3]; rfl)
theorem words_eq (s : ByteArray) (hs : (L s).length ≤ 1000000000) : glyph_Words.f s = some ((wordsL (L s)).map S) := by
  unfold glyph_Words.f
  rw [if_pos (by rw [sz]; omega)]
  congr 1
  unfold Go.Lib.goFieldsP Go.Lib.spansOfP
  have := spans_wd s (L s) 0 s.size none [] (At.start s) (by rw [sz]; exact Nat.le_refl _) (by simp)
  rw [List.map_nil, List.nil_append] at this
  exact this
end Go.Proofs.YtlkppogpoodjlaaDoor.Glyph
