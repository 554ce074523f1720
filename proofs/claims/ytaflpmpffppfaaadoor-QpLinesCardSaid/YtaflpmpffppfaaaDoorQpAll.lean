/- The lines of a text: what the reference's printed function tells. -/
import Derived.Test.YtaflpmpffppfaaaDoorX
import Derived.Test.YtaflpmpffppfaaaDoorAid
import Derived.Test.YtaflpmpffppfaaaDoorQpP
namespace Go.Proofs.YtaflpmpffppfaaaDoor.SpL
open Go.RowKit Go.Proofs.YtaflpmpffppfaaaDoor.X Go.Proofs.YtaflpmpffppfaaaDoorW.PrintWords Go.Proofs.YtaflpmpffppfaaaDoorW.PrintLast Go.Proofs.YtaflpmpffppfaaaDoorW.PrintMore Go.Proofs.YtaflpmpffppfaaaDoor.Aid
set_option linter.unusedVariables false
set_option linter.unusedSimpArgs false
/-- whole lines, and what is left -/
def sp : List UInt8 → List UInt8 → List (List UInt8) × List UInt8
  | cur, [] => ([], cur)
  | cur, [c] => ([], cur ++ [c])
  | cur, c :: d :: t => if c = 13 ∧ d = 10 then (cur :: (sp [] t).1, (sp [] t).2) else sp (cur ++ [c]) (d :: t)
theorem sp_hit (cur t : List UInt8) : sp cur (13 :: 10 :: t) = (cur :: (sp [] t).1, (sp [] t).2) := by
  rw [sp, if_pos ⟨rfl, rfl⟩]
theorem sp_miss (cur : List UInt8) (c : UInt8) (t : List UInt8) (h : ∀ u, c :: t ≠ 13 :: 10 :: u) : sp cur (c :: t) = sp (cur ++ [c]) t := by
  cases t with
  | nil => rw [sp, sp]
  | cons d t =>
    rw [sp, if_neg]
    rintro ⟨rfl, rfl⟩
    exact h t rfl
theorem sp_count (n : Nat) : ∀ l cur : List UInt8, l.length ≤ n → (sp cur l).1.length ≤ l.length := by
  induction n with
  | zero =>
    intro l cur h
    rw [List.length_eq_zero_iff.1 (by omega : l.length = 0), sp]
    simp
  | succ n ih =>
    intro l cur h
    cases l with
    | nil => rw [sp]; simp
    | cons c t =>
      by_cases hp : ∃ u, c :: t = 13 :: 10 :: u
      · obtain ⟨u, e⟩ := hp
        rw [e, sp_hit]
        rw [e] at h
        have := ih u [] (by simp at h; omega)
        simp only [List.length_cons] at h ⊢
        omega
      · rw [sp_miss cur c t (fun u e => hp ⟨u, e⟩)]
        have := ih t (cur ++ [c]) (by simpa using h)
        simp only [List.length_cons]
        omega
/-- each line, and what is left, has no more bytes than all -/
theorem sp_size (n : Nat) : ∀ l cur : List UInt8, l.length ≤ n → (∀ x ∈ (sp cur l).1, x.length ≤ cur.length + l.length) ∧ (sp cur l).2.length ≤ cur.length + l.length := by
  induction n with
  | zero =>
    intro l cur h
    rw [List.length_eq_zero_iff.1 (by omega : l.length = 0), sp]
    simp
  | succ n ih =>
    intro l cur h
    cases l with
    | nil => rw [sp]; simp
    | cons c t =>
      by_cases hp : ∃ u, c :: t = 13 :: 10 :: u
      · obtain ⟨u, e⟩ := hp
        rw [e, sp_hit]
        rw [e] at h
        obtain ⟨i1, i2⟩ := ih u [] (by simp at h; omega)
        simp only [List.length_cons, List.length_nil] at h i1 i2 ⊢
        refine ⟨fun x hx => ?_, by omega⟩
        rcases List.mem_cons.1 hx with rfl | hx
        · omega
        · have := i1 x hx; omega
      · rw [sp_miss cur c t (fun u e => hp ⟨u, e⟩)]
        obtain ⟨i1, i2⟩ := ih t (cur ++ [c]) (by simpa using h)
        simp only [List.length_append, List.length_cons, List.length_nil] at i1 i2 ⊢
        refine ⟨fun x hx => ?_, by omega⟩
        have := i1 x hx
        omega
theorem ext1 (s : ByteArray) (i : Nat) (h : i < (L s).length) : s.extract ((i : Nat) : Int).toNat ((i + 1 : Nat) : Int).toNat = S [(L s)[i]] := by
  apply L_inj
  rw [L_ext, L_S]
  show ((L s).take (i + 1)).drop i = _
  rw [List.take_add_one, List.drop_append_of_le_length (by rw [List.length_take]; omega), List.drop_eq_nil_of_le (by rw [List.length_take]; omega), List.getElem?_eq_getElem h]
  rfl
theorem zS (l : List UInt8) : (S l).size = l.length := by rw [sz, L_S]
theorem lines_l0 (s : ByteArray) (hs : (L s).length ≤ 1000000000) (d : Nat) : ∀ (i : Nat) (acc : List ByteArray) (cur : List UInt8), i ≤ (L s).length → (L s).length - i ≤ d → acc.length ≤ i → cur.length ≤ i →
    Ev (fun k => bulletinref17_Lines.l0 k s acc (S cur) (i : Int)) (acc ++ (sp cur ((L s).drop i)).1.map S ++ [S (sp cur ((L s).drop i)).2]) := by
  induction d with
  | zero =>
    intro i acc cur hi hd ha hc
    refine up ?_
    simp only [bulletinref17_Lines.l0]
    refine neg (by rw [sz]; omega) (pos (by omega) (now' ?_))
    rw [List.drop_eq_nil_of_le (by omega), sp]
    simp
  | succ d ih =>
    intro i acc cur hi hd ha hc
    by_cases hil : i < (L s).length
    case neg =>
      refine up ?_
      simp only [bulletinref17_Lines.l0]
      refine neg (by rw [sz]; omega) (pos (by omega) (now' ?_))
      rw [List.drop_eq_nil_of_le (by omega), sp]
      simp
    have hz := zS cur
    have z1 : (S [(L s)[i]]).size = 1 := rfl
    have ss := sz s
    refine up ?_
    simp only [bulletinref17_Lines.l0]
    refine pos (by omega) (pos (by omega) ?_)
    rw [btn s i hil, wi i (by omega), ext1 s i hil]
    have other : (∀ u, (L s).drop i ≠ 13 :: 10 :: u) → Ev (fun k => (if (i : Int) ≤ ((i + 1 : Nat) : Int) then (if ((i + 1 : Nat) : Int) ≤ (s.size : Int) then (if (S cur).size + (S [(L s)[i]]).size ≤ 9223372036854775807 then (bulletinref17_Lines.l0 k s acc (S cur ++ S [(L s)[i]]) ((i + 1 : Nat) : Int)) else (none)) else (none)) else (none))) (acc ++ (sp cur ((L s).drop i)).1.map S ++ [S (sp cur ((L s).drop i)).2]) := by
      intro h
      rw [List.drop_eq_getElem_cons hil] at h ⊢
      rw [sp_miss cur _ _ h, S_app]
      refine pos (by omega) (pos (by omega) (pos (by omega) ?_))
      exact ih (i + 1) acc (cur ++ [(L s)[i]]) (by omega) (by omega) (by omega) (by simp; omega)
    by_cases h13 : (L s)[i] = 13
    · refine pos (by rw [h13]; rfl) ?_
      by_cases hi1 : i + 1 < (L s).length
      · refine pos (by omega) (pos (by omega) ?_)
        rw [btn s (i + 1) hi1, wi (i + 1) (by omega)]
        have hdr : (L s).drop i = (L s)[i] :: (L s)[i + 1] :: (L s).drop (i + 2) := by rw [List.drop_eq_getElem_cons hil, List.drop_eq_getElem_cons hi1]
        by_cases h10 : (L s)[i + 1] = 10
        · refine pos (by rw [h10]; rfl) (pos (by omega) ?_)
          rw [hdr, h13, h10, sp_hit]
          have := ih (i + 2) (acc ++ [S cur]) [] (by omega) (by omega) (by simp; omega) (by simp)
          simp only [List.map_cons, List.append_assoc, List.cons_append, List.nil_append] at this ⊢
          exact this
        · refine neg (fun e => h10 (u8i (d := 10) e)) (other ?_)
          intro u e
          rw [hdr] at e
          exact h10 (List.cons.inj (List.cons.inj e).2).1
      · refine neg (by omega) (other ?_)
        intro u e
        have := congrArg List.length e
        rw [List.length_drop] at this
        simp only [List.length_cons] at this
        omega
    · refine neg (fun e => h13 (u8i (d := 13) e)) (other ?_)
      intro u e
      rw [List.drop_eq_getElem_cons hil] at e
      exact h13 (List.cons.inj e).1
theorem lines_ev (s : ByteArray) (hs : (L s).length ≤ 1000000000) : Ev (fun k => bulletinref17_Lines.f k s) ((sp [] (L s)).1.map S ++ [S (sp [] (L s)).2]) := by
  have := lines_l0 s hs (L s).length 0 [] [] (by omega) (by omega) (by simp) (by simp)
  rw [List.drop_zero, List.nil_append] at this
  exact this
end Go.Proofs.YtaflpmpffppfaaaDoor.SpL
/- qp: what the printed functions tell, in plain words. -/
namespace Go.Proofs.YtaflpmpffppfaaaDoor.QpQ
open Go.RowKit Go.Proofs.YtaflpmpffppfaaaDoor.X Go.Proofs.YtaflpmpffppfaaaDoorW.PrintWords Go.Proofs.YtaflpmpffppfaaaDoorW.PrintLast Go.Proofs.YtaflpmpffppfaaaDoorW.PrintMore Go.Proofs.YtaflpmpffppfaaaDoor.Aid
open Go.Proofs.YtaflpmpffppfaaaDoor.QpP Go.Proofs.YtaflpmpffppfaaaDoor.PcL
set_option linter.unusedVariables false
set_option linter.unusedSimpArgs false
theorem sp_same (n : Nat) : ∀ l cur : List UInt8, l.length ≤ n → SpL.sp cur l = PcL.sp cur l := by
  induction n with
  | zero =>
    intro l cur h
    rw [List.length_eq_zero_iff.1 (by omega : l.length = 0), SpL.sp, PcL.sp]
  | succ n ih =>
    intro l cur h
    cases l with
    | nil => rw [SpL.sp, PcL.sp]
    | cons c t =>
      by_cases hp : ∃ u, c :: t = 13 :: 10 :: u
      · obtain ⟨u, e⟩ := hp
        rw [e] at h ⊢
        rw [SpL.sp_hit, PcL.sp_hit, ih u [] (by simp at h; omega)]
      · rw [SpL.sp_miss cur c t (fun u e => hp ⟨u, e⟩), PcL.sp_miss cur c t (fun u e => hp ⟨u, e⟩)]
        exact ih t _ (by simpa using h)
theorem lines_ev (s : ByteArray) (hs : (L s).length ≤ 1000000000) : Ev (fun k => bulletinref17_Lines.f k s) ((pcs (L s)).map S) := by
  have := SpL.lines_ev s hs
  rw [sp_same _ (L s) [] (Nat.le_refl _)] at this
  unfold pcs
  rw [List.map_append]
  exact this
theorem works60 : bulletinlaw17_works.f 60 = some true := by decide +kernel
theorem works_ev : Ev (fun k => bulletinlaw17_works.f k) true := Ev.of (bulletinlaw17_works.mono) works60
/-! ### the bytes of digits -/
def byteV (l : List UInt8) : Int × Bool := match l with | [a, b] => if hex2 a b = true then (((two a b).toNat : Int), true) else (0, false) | _ => (0, false)
theorem digit_ : ∀ n : Nat, n < 256 → qp_digit.f 5 (n : Int) = some (hx (UInt8.ofNat n)) := by decide +kernel
theorem digit_ev (c : UInt8) : Ev (fun k => qp_digit.f k (c.toNat : Int)) (hx c) := by
  have := digit_ c.toNat c.toNat_lt
  rw [UInt8.ofNat_toNat] at this
  exact Ev.of (qp_digit.mono _) this
theorem rdigit_ : ∀ n : Nat, n < 256 → bulletinref17_Digit.f 40 (n : Int) = some (hx (UInt8.ofNat n)) := by decide +kernel
theorem rdigit_ev (c : UInt8) : Ev (fun k => bulletinref17_Digit.f k (c.toNat : Int)) (hx c) := by
  have := rdigit_ c.toNat c.toNat_lt
  rw [UInt8.ofNat_toNat] at this
  exact Ev.of (bulletinref17_Digit.mono _) this
theorem hx_lt (c : UInt8) : -1 ≤ hx c ∧ hx c < 16 := by unfold hx; (repeat' split) <;> omega
theorem val_ : ∀ a : Nat, a < 16 → ∀ b : Nat, b < 16 → (Go.bits .or .i64 (wrap64 ((a : Int) * 16)) (b : Int)) % 256 = ((a * 16 + b : Nat) : Int) := by decide +kernel
theorem rval_ : ∀ a : Nat, a < 16 → ∀ b : Nat, b < 16 → (wrap64 ((wrap64 (16 * (a : Int))) + (b : Int))) % 256 = ((a * 16 + b : Nat) : Int) := by decide +kernel
theorem two_val (a b : UInt8) (ha : 0 ≤ hx a) (hb : 0 ≤ hx b) : ((two a b).toNat : Int) = (((hx a).toNat * 16 + (hx b).toNat : Nat) : Int) ∧ (hx a).toNat < 16 ∧ (hx b).toNat < 16 := by
  have h1 := hx_lt a
  have h2 := hx_lt b
  refine ⟨?_, by omega, by omega⟩
  unfold two
  rw [UInt8.toNat_ofNat']
  omega
theorem byte_ev (s : ByteArray) : Ev (fun k => qp_Byte.f k s) (byteV (L s)) := by
  have hz := sz s
  unfold byteV
  split
  · rename_i a b hl
    rw [hl] at hz
    simp only [List.length_cons, List.length_nil] at hz
    have b0 : bt s 0 = (a.toNat : Int) := by
      have := btd s 0
      rw [hl] at this
      exact this
    have b1 : bt s 1 = (b.toNat : Int) := by
      have := btd s 1
      rw [hl] at this
      exact this
    simp only [qp_Byte.f]
    refine pos (by omega) (pos (by omega) ?_)
    rw [b0]
    refine Ev.bind (digit_ev a) ?_
    by_cases ha : hx a < 0
    · rw [if_neg (by simp [hex2]; omega)]
      refine pos ha (up ?_)
      simp only [qp_Byte.j0]
      exact pos trivial (now' rfl)
    · refine neg ha (pos (by omega) ?_)
      rw [b1]
      refine Ev.bind (digit_ev b) (up ?_)
      simp only [qp_Byte.j0]
      by_cases hb : hx b < 0
      · rw [if_neg (by simp [hex2]; omega)]
        exact pos (by simpa using hb) (now' rfl)
      · rw [if_pos (by simp [hex2]; omega)]
        refine neg (by simpa using hb) (pos (by omega) ?_)
        rw [b0]
        refine Ev.bind (digit_ev a) (pos (by omega) ?_)
        rw [b1]
        refine Ev.bind (digit_ev b) (now' ?_)
        obtain ⟨e, h1, h2⟩ := two_val a b (by omega) (by omega)
        have := val_ _ h1 _ h2
        rw [Int.toNat_of_nonneg (by omega), Int.toNat_of_nonneg (by omega)] at this
        rw [this, e]
  · rename_i hne
    simp only [qp_Byte.f]
    refine neg (fun h => ?_) (up ?_)
    · have h2 : (L s).length = 2 := by omega
      match hl : L s, h2 with
      | [a, b], _ => exact hne a b hl
    · simp only [qp_Byte.j0]
      exact pos trivial (now' rfl)
theorem rbyte_ev (s : ByteArray) : Ev (fun k => bulletinref17_Byte.f k s) (byteV (L s)) := by
  have hz := sz s
  unfold byteV
  split
  · rename_i a b hl
    rw [hl] at hz
    simp only [List.length_cons, List.length_nil] at hz
    have b0 : bt s 0 = (a.toNat : Int) := by
      have := btd s 0
      rw [hl] at this
      exact this
    have b1 : bt s 1 = (b.toNat : Int) := by
      have := btd s 1
      rw [hl] at this
      exact this
    simp only [bulletinref17_Byte.f]
    refine pos (by omega) (pos (by omega) ?_)
    rw [b0]
    refine Ev.bind (rdigit_ev a) (pos (by omega) ?_)
    rw [b1]
    refine Ev.bind (rdigit_ev b) ?_
    by_cases ha : hx a < 0
    · have e : (if hex2 a b = true then (((two a b).toNat : Int), true) else (0, false)) = (0, false) := if_neg (by simp [hex2]; omega)
      rw [e]
      exact pos ha (now' rfl)
    · refine neg ha ?_
      by_cases hb : hx b < 0
      · have e : (if hex2 a b = true then (((two a b).toNat : Int), true) else (0, false)) = (0, false) := if_neg (by simp [hex2]; omega)
        rw [e]
        exact pos hb (now' rfl)
      · have e0 : (if hex2 a b = true then (((two a b).toNat : Int), true) else (0, false)) = (((two a b).toNat : Int), true) := if_pos (by simp [hex2]; omega)
        rw [e0]
        refine neg hb (now' ?_)
        obtain ⟨e, h1, h2⟩ := two_val a b (by omega) (by omega)
        have := rval_ _ h1 _ h2
        rw [Int.toNat_of_nonneg (by omega), Int.toNat_of_nonneg (by omega)] at this
        rw [this, e]
  · rename_i hne
    simp only [bulletinref17_Byte.f]
    refine neg (fun h => ?_) (now' rfl)
    have h2 : (L s).length = 2 := by omega
    match hl : L s, h2 with
    | [a, b], _ => exact hne a b hl
/-! ### a line read -/
theorem plain_ : ∀ n : Nat, n < 256 → qp_plain.f (n : Int) = some (itself (UInt8.ofNat n)) := by decide +kernel
theorem plain_f (c : UInt8) : qp_plain.f (c.toNat : Int) = some (itself c) := by
  have := plain_ c.toNat c.toNat_lt
  rwa [UInt8.ofNat_toNat] at this
theorem white_ : ∀ n : Nat, n < 256 → qp_white.f (n : Int) = some (QpP.blank (UInt8.ofNat n)) := by decide +kernel
theorem white_f (c : UInt8) : qp_white.f (c.toNat : Int) = some (QpP.blank c) := by
  have := white_ c.toNat c.toNat_lt
  rwa [UInt8.ofNat_toNat] at this
theorem rit_ : ∀ n : Nat, n < 256 → bulletinref17_itself.f (n : Int) = some (itself (UInt8.ofNat n)) := by decide +kernel
theorem rit_f (c : UInt8) : bulletinref17_itself.f (c.toNat : Int) = some (itself c) := by
  have := rit_ c.toNat c.toNat_lt
  rwa [UInt8.ofNat_toNat] at this
theorem rbl_ : ∀ n : Nat, n < 256 → bulletinref17_blank.f (n : Int) = some (QpP.blank (UInt8.ofNat n)) := by decide +kernel
theorem rbl_f (c : UInt8) : bulletinref17_blank.f (c.toNat : Int) = some (QpP.blank c) := by
  have := rbl_ c.toNat c.toNat_lt
  rwa [UInt8.ofNat_toNat] at this
def I8 (l : List UInt8) : List Int := l.map fun c => (c.toNat : Int)
theorem nums_I8 (l : List UInt8) : strOfNums (I8 l) = S l := by
  rw [nums_eq]
  congr 1
  unfold I8
  rw [List.map_map]
  have : ((fun x : Int => UInt8.ofNat x.toNat) ∘ fun c : UInt8 => (c.toNat : Int)) = id := by
    funext c
    simp
  rw [this, List.map_id]
theorem I8_snoc (l : List UInt8) (c : UInt8) : I8 l ++ [(c.toNat : Int)] = I8 (l ++ [c]) := by simp [I8]
theorem rd_bad (acc : List UInt8) (c : UInt8) (t : List UInt8) (h : (itself c || QpP.blank c) = false) (h2 : c ≠ 61) : QpP.rd acc (c :: t) = ([], false, false) := by
  match t with
  | [] => rw [QpP.rd, if_neg (by rw [h]; simp), if_neg h2]
  | [a] => rw [QpP.rd, if_neg (by rw [h]; simp)]
  | a :: b :: t => rw [QpP.rd, if_neg (by rw [h]; simp), if_neg (fun e => h2 e.1)]
theorem rd_hex_no (acc : List UInt8) (a : UInt8) (t : List UInt8) (h : byteV ((a :: t).take 2) = (0, false)) : QpP.rd acc (61 :: a :: t) = ([], false, false) := by
  cases t with
  | nil => rw [QpP.rd, if_neg (by rw [free61]; simp)]
  | cons b t =>
    rw [QpP.rd, if_neg (by rw [free61]; simp), if_neg]
    rintro ⟨_, hh⟩
    simp [byteV, hh] at h
theorem mn_nat (a b : Nat) : mn (a : Int) (b : Int) = ((min a b : Nat) : Int) := by
  unfold mn
  split <;> omega
theorem wi3 (i : Nat) (h : i < 4611686018427387000) : wrap64 ((i : Int) + 3) = ((i + 3 : Nat) : Int) := by rw [w64 (by omega) (by omega)]; rfl
theorem wi23 (i : Nat) (h : i < 4611686018427387000) : wrap64 (wrap64 ((i : Int) + 2) + 1) = ((i + 3 : Nat) : Int) := by
  rw [show wrap64 ((i : Int) + 2) = (i : Int) + 2 from w64 (by omega) (by omega), w64 (by omega) (by omega)]; omega
theorem read_l0 (s : ByteArray) (hs : (L s).length ≤ 1000000000) (d : Nat) : ∀ (i : Nat) (acc : List UInt8), i ≤ (L s).length → (L s).length - i ≤ d → acc.length ≤ i →
    Ev (fun k => qp_read.l0 k s (I8 acc) (i : Int)) (S (QpP.rd acc ((L s).drop i)).1, (QpP.rd acc ((L s).drop i)).2.1, (QpP.rd acc ((L s).drop i)).2.2) := by
  induction d with
  | zero =>
    intro i acc hi hd ha
    refine up ?_
    simp only [qp_read.l0]
    refine neg (by rw [sz]; omega) (now' ?_)
    rw [List.drop_eq_nil_of_le (by omega), QpP.rd, nums_I8]
  | succ d ih =>
    intro i acc hi hd ha
    have ss := sz s
    by_cases hil : i < (L s).length
    case neg =>
      refine up ?_
      simp only [qp_read.l0]
      refine neg (by rw [sz]; omega) (now' ?_)
      rw [List.drop_eq_nil_of_le (by omega), QpP.rd, nums_I8]
    have hal : (I8 acc).length = acc.length := by simp [I8]
    obtain ⟨c, hc⟩ : ∃ c, (L s)[i] = c := ⟨_, rfl⟩
    have hb : bt s (i : Int) = (c.toNat : Int) := by rw [btn s i hil, hc]
    have hdr : (L s).drop i = c :: (L s).drop (i + 1) := by rw [List.drop_eq_getElem_cons hil, hc]
    refine up ?_
    simp only [qp_read.l0]
    refine pos (by omega) (pos (by omega) ?_)
    rw [hb, plain_f]
    refine sbind ?_
    have tl2 : (itself c || QpP.blank c) = true → Ev (fun k => qp_read.j1 k s (I8 acc) (i : Int) (c.toNat : Int) true) (S (QpP.rd acc ((L s).drop i)).1, (QpP.rd acc ((L s).drop i)).2.1, (QpP.rd acc ((L s).drop i)).2.2) := by
      intro hf
      refine up ?_
      simp only [qp_read.j1]
      refine pos trivial (pos (by omega) ?_)
      rw [wi i (by omega), I8_snoc, hdr, rd_free acc c _ hf]
      exact ih (i + 1) (acc ++ [c]) (by omega) (by omega) (by simp; omega)
    by_cases hit : itself c = true
    · exact pos hit (tl2 (by rw [hit]; rfl))
    · have hit' : itself c = false := by simpa using hit
      refine neg hit ?_
      rw [white_f]
      refine sbind ?_
      by_cases hbl : QpP.blank c = true
      · rw [hbl]
        exact tl2 (by rw [hbl]; simp)
      · have hbl' : QpP.blank c = false := by simpa using hbl
        rw [hbl']
        refine up ?_
        simp only [qp_read.j1]
        refine neg (by simp) ?_
        by_cases h61 : c = 61
        · subst h61
          refine pos rfl (up ?_)
          simp only [qp_read.j2]
          rw [w64 (by omega) (by omega)]
          by_cases hlast : i + 1 = (L s).length
          · refine pos (by rw [beq_iff_eq]; omega) (now' ?_)
            rw [hdr, List.drop_eq_nil_of_le (by omega), rd_soft, nums_I8]
          · have hi1 : i + 1 < (L s).length := by omega
            refine neg (by rw [beq_iff_eq]; omega) (pos rfl ?_)
            rw [wi i (by omega), wi3 i (by omega), wi23 i (by omega), ss, mn_nat]
            refine pos (by omega) (pos (by omega) (pos (by omega) ?_))
            have hx2 : L (s.extract ((i + 1 : Nat) : Int).toNat ((min (i + 3) (L s).length : Nat) : Int).toNat) = ((L s).drop (i + 1)).take 2 := by
              rw [L_ext, Int.toNat_natCast, Int.toNat_natCast, List.drop_take]
              apply List.ext_getElem?
              intro j
              by_cases hj : j < 2
              · rw [List.getElem?_take_of_lt hj]
                by_cases hj2 : i + 1 + j < (L s).length
                · rw [List.getElem?_take_of_lt (by omega)]
                · rw [List.getElem?_eq_none (by rw [List.length_take, List.length_drop]; omega), List.getElem?_eq_none (by rw [List.length_drop]; omega)]
              · rw [List.getElem?_eq_none (by rw [List.length_take, List.length_drop]; omega), List.getElem?_eq_none (by rw [List.length_take]; omega)]
            refine Ev.bind (byte_ev _) ?_
            rw [hx2]
            obtain ⟨a, ha1⟩ : ∃ a, (L s)[i + 1] = a := ⟨_, rfl⟩
            have hd1 : (L s).drop (i + 1) = a :: (L s).drop (i + 2) := by rw [List.drop_eq_getElem_cons hi1, ha1]
            rw [hdr, hd1]
            by_cases hi2 : i + 2 < (L s).length
            · obtain ⟨b, hb1⟩ : ∃ b, (L s)[i + 2] = b := ⟨_, rfl⟩
              have hd2 : (L s).drop (i + 2) = b :: (L s).drop (i + 3) := by rw [List.drop_eq_getElem_cons hi2, hb1]
              rw [hd2]
              by_cases hh : hex2 a b = true
              · have hv : byteV ((a :: b :: (L s).drop (i + 3)).take 2) = (((two a b).toNat : Int), true) := by simp [byteV, hh]
                rw [hv, rd_hex acc a b _ hh]
                refine pos rfl (pos (by omega) ?_)
                rw [I8_snoc]
                exact ih (i + 3) (acc ++ [two a b]) (by omega) (by omega) (by simp; omega)
              · have hv : byteV ((a :: b :: (L s).drop (i + 3)).take 2) = (0, false) := by simp [byteV, hh]
                rw [hv, rd_hex_no acc a _ hv]
                exact neg (by simp) (now' rfl)
            · have hv : byteV ((a :: (L s).drop (i + 2)).take 2) = (0, false) := by
                rw [List.drop_eq_nil_of_le (by omega)]; rfl
              rw [hv, rd_hex_no acc a _ hv]
              exact neg (by simp) (now' rfl)
        · have hne : ¬ ((c.toNat : Int) = 61) := fun e => h61 (u8i (d := 61) e)
          refine neg hne (up ?_)
          simp only [qp_read.j2]
          refine neg (by simp) (neg hne (now' ?_))
          rw [hdr, rd_bad acc c _ (by rw [hit', hbl']; rfl) h61]
          rfl
theorem read_ev (s : ByteArray) (hs : (L s).length ≤ 1000000000) : Ev (fun k => qp_read.f k s) (S (QpP.rd [] (L s)).1, (QpP.rd [] (L s)).2.1, (QpP.rd [] (L s)).2.2) := by
  have := read_l0 s hs (L s).length 0 [] (by omega) (by omega) (by simp)
  rw [List.drop_zero] at this
  exact this
end Go.Proofs.YtaflpmpffppfaaaDoor.QpQ
/- qp: what the reference's Encode and Decode tell, in plain words. -/
namespace Go.Proofs.YtaflpmpffppfaaaDoor.QpQ
open Go.RowKit Go.Proofs.YtaflpmpffppfaaaDoor.X Go.Proofs.YtaflpmpffppfaaaDoorW.PrintWords Go.Proofs.YtaflpmpffppfaaaDoorW.PrintLast Go.Proofs.YtaflpmpffppfaaaDoorW.PrintMore Go.Proofs.YtaflpmpffppfaaaDoor.Aid
open Go.Proofs.YtaflpmpffppfaaaDoor.QpP Go.Proofs.YtaflpmpffppfaaaDoor.PcL
set_option linter.unusedVariables false
set_option linter.unusedSimpArgs false
theorem zS (l : List UInt8) : (S l).size = l.length := by rw [sz, L_S]
/-! ### the reference's Encode -/
theorem lineGo_len (l : List UInt8) : ∀ n, (lineGo l n).length ≤ 6 * l.length := by
  induction l with
  | nil => intro n; simp [lineGo]
  | cons c t ih =>
    intro n
    have := (wr_len c t.isEmpty).2
    rw [lineGo]
    split
    · have := ih (wr c t.isEmpty).length
      simp only [List.length_append, List.length_cons, List.length_nil]
      omega
    · have := ih (n + (wr c t.isEmpty).length)
      simp only [List.length_append, List.length_cons]
      omega
theorem joinE_len : ∀ ps : List (List UInt8), (joinE (ps.map fun p => lineGo p 0)).length ≤ 6 * (joinE ps).length
  | [] => by simp [joinE]
  | [p] => lineGo_len p 0
  | p :: q :: t => by
    have := joinE_len (q :: t)
    have h2 := lineGo_len p 0
    rw [List.map_cons, joinE_cons p (q :: t) (by simp), joinE_cons (lineGo p 0) _ (by simp)]
    simp only [List.length_append, List.length_cons, List.length_nil]
    omega
theorem enc_len (l : List UInt8) : (enc l).length ≤ 6 * l.length := by
  have := joinE_len (pcs l)
  rw [join_pcs l.length l (Nat.le_refl _)] at this
  exact this
theorem line_f (p : List UInt8) (h : p.length ≤ 1000000) : bulletinref17_Line.f (S p) = some (S (lineGo p 0)) := by
  unfold bulletinref17_Line.f
  rw [if_pos (by rw [zS]; exact h), L_S]
theorem encode_l0 (ps : List (List UInt8)) (hp : ∀ p ∈ ps, p.length ≤ 1000000) (hn : ps.length ≤ 2000000) (d : Nat) : ∀ (i : Nat), 1 ≤ i → i ≤ ps.length → ps.length - i ≤ d → (joinE ((ps.take i).map fun p => lineGo p 0)).length ≤ i * 7000000 →
    Ev (fun k => bulletinref17_Encode.l0 k (ps.map S) (S (joinE ((ps.take i).map fun p => lineGo p 0))) (i : Int)) (S (joinE (ps.map fun p => lineGo p 0))) := by
  induction d with
  | zero =>
    intro i h1 hi hd hl
    refine up ?_
    simp only [bulletinref17_Encode.l0]
    refine neg (by rw [List.length_map]; omega) (now' ?_)
    rw [List.take_of_length_le (by omega)]
  | succ d ih =>
    intro i h1 hi hd hl
    refine up ?_
    simp only [bulletinref17_Encode.l0]
    by_cases hil : i < ps.length
    case neg =>
      refine neg (by rw [List.length_map]; omega) (now' ?_)
      rw [List.take_of_length_le (by omega)]
    have hpi := hp ps[i] (List.getElem_mem hil)
    have hli := lineGo_len ps[i] 0
    have hz2 := zS (joinE ((ps.take i).map fun p => lineGo p 0))
    have hbig : i * 7000000 ≤ 2000000 * 7000000 := Nat.mul_le_mul_right _ (by omega)
    refine pos (by rw [List.length_map]; omega) (pos (by rw [hz2]; omega) (pos (by omega) ?_))
    rw [rdOf_nat _ _ i (by rw [List.length_map]; exact hil), List.getElem_map, line_f _ hpi]
    refine sbind ?_
    have hz3 : (S (joinE ((ps.take i).map fun p => lineGo p 0)) ++ (⟨#[13, 10]⟩ : ByteArray)).size = (joinE ((ps.take i).map fun p => lineGo p 0)).length + 2 := by rw [ByteArray.size_append, hz2]; rfl
    refine pos (by rw [hz3, zS]; omega) ?_
    have hnext : S (joinE ((ps.take i).map fun p => lineGo p 0)) ++ (⟨#[13, 10]⟩ : ByteArray) ++ S (lineGo ps[i] 0) = S (joinE ((ps.take (i + 1)).map fun p => lineGo p 0)) := by
      rw [List.take_succ_eq_append_getElem hil, List.map_append, List.map_cons, List.map_nil, joinE_snoc, if_neg, ← S_app, ← S_app]
      · rfl
      · intro e
        have := congrArg List.length e
        rw [List.length_map, List.length_take, List.length_nil] at this
        omega
    rw [hnext, wi i (by omega)]
    refine ih (i + 1) (by omega) (by omega) (by omega) ?_
    have := congrArg ByteArray.size hnext
    rw [ByteArray.size_append, hz3, zS, zS] at this
    rw [← this]
    omega
theorem rencode_ev (s : ByteArray) (hs : (L s).length ≤ 1000000) : Ev (fun k => bulletinref17_Encode.f k s) (S (enc (L s))) := by
  simp only [bulletinref17_Encode.f]
  refine Ev.bind (lines_ev s (by omega)) ?_
  obtain ⟨h1, h2⟩ := pcs_size (L s).length (L s) (Nat.le_refl _)
  have h3 := pcs_ne (L s)
  unfold enc
  obtain ⟨ps, hps⟩ : ∃ ps, pcs (L s) = ps := ⟨_, rfl⟩
  rw [hps] at h1 h2 h3 ⊢
  have hpos : 0 < ps.length := List.length_pos_iff.2 h3
  refine pos (by rw [List.length_map]; omega) ?_
  have e0 := rdOf_nat ByteArray.empty (ps.map S) 0 (by rw [List.length_map]; exact hpos)
  rw [show ((0 : Nat) : Int) = 0 from rfl] at e0
  have hp0 : ps[0].length ≤ 1000000 := Nat.le_trans (h1 _ (List.getElem_mem hpos)) hs
  rw [e0, List.getElem_map, line_f _ hp0]
  refine sbind ?_
  have ht : (ps.take 1).map (fun p => lineGo p 0) = [lineGo ps[0] 0] := by
    rw [List.take_one, List.head?_eq_getElem?, List.getElem?_eq_getElem hpos]
    rfl
  have := encode_l0 ps (fun p hp => Nat.le_trans (h1 p hp) hs) (by omega) ps.length 1 (by omega) (by omega) (by omega) (by
    have := lineGo_len ps[0] 0
    rw [ht]
    show (lineGo ps[0] 0).length ≤ _
    omega)
  rw [ht] at this
  exact this
/-! ### the reference's Decode -/
def rr : List UInt8 → Option (List UInt8)
  | [] => some []
  | [c] => if (itself c || QpP.blank c) = true then some [c] else none
  | [c, a] => if (itself c || QpP.blank c) = true then (rr [a]).map (c :: ·) else none
  | c :: a :: b :: t => if (itself c || QpP.blank c) = true then (rr (a :: b :: t)).map (c :: ·) else if c = 61 ∧ hex2 a b = true then (rr t).map (two a b :: ·) else none
theorem rr_free (c : UInt8) (t : List UInt8) (h : (itself c || QpP.blank c) = true) : rr (c :: t) = (rr t).map (c :: ·) := by
  match t with
  | [] =>
    conv => lhs; rw [rr, if_pos h]
    rw [rr]; rfl
  | [a] => conv => lhs; rw [rr, if_pos h]
  | a :: b :: t => conv => lhs; rw [rr, if_pos h]
theorem rr_bad (c : UInt8) (t : List UInt8) (h : (itself c || QpP.blank c) = false) (h2 : c ≠ 61) : rr (c :: t) = none := by
  match t with
  | [] => rw [rr, if_neg (by rw [h]; simp)]
  | [a] => rw [rr, if_neg (by rw [h]; simp)]
  | a :: b :: t => rw [rr, if_neg (by rw [h]; simp), if_neg (fun e => h2 e.1)]
theorem rr_hex (a b : UInt8) (t : List UInt8) : rr (61 :: a :: b :: t) = if hex2 a b = true then (rr t).map (two a b :: ·) else none := by
  rw [rr, if_neg (by rw [free61]; simp)]
  by_cases h : hex2 a b = true
  · rw [if_pos ⟨rfl, h⟩, if_pos h]
  · rw [if_neg (fun e => h e.2), if_neg h]
theorem rr_short (t : List UInt8) (h : t.length < 2) : rr (61 :: t) = none := by
  match t, h with
  | [], _ => rw [rr, if_neg (by rw [free61]; simp)]
  | [a], _ => rw [rr, if_neg (by rw [free61]; simp)]
theorem hx61 (a b : UInt8) (h : hex2 a b = true) : b ≠ 61 := by
  rintro rfl
  simp [hex2] at h
  have : hx 61 = -1 := by decide
  omega
/-- what the program reads, by the reference's way -/
def byRef (acc l : List UInt8) : List UInt8 × Bool × Bool :=
  if l.getLast? = some 61 then (match rr l.dropLast with | some u => (acc ++ u, true, true) | none => ([], false, false))
  else (match rr l with | some u => (acc ++ u, false, true) | none => ([], false, false))
theorem rd_len : ∀ (n : Nat) (l acc : List UInt8), l.length ≤ n → (QpP.rd acc l).1.length ≤ acc.length + l.length := by
  intro n
  induction n with
  | zero =>
    intro l acc h
    obtain rfl := List.length_eq_zero_iff.1 (by omega : l.length = 0)
    simp [QpP.rd]
  | succ n ih =>
    intro l acc h
    match l, h with
    | [], _ => simp [QpP.rd]
    | [c], _ =>
      rw [QpP.rd]
      split
      · simp
      · split <;> simp
    | [c, a], h =>
      rw [QpP.rd]
      split
      · have := ih [a] (acc ++ [c]) (by simp at h ⊢; omega)
        simp at this ⊢
        omega
      · simp
    | c :: a :: b :: t, h =>
      simp only [List.length_cons] at h
      rw [QpP.rd]
      split
      · have := ih (a :: b :: t) (acc ++ [c]) (by simp; omega)
        simp at this ⊢
        omega
      · split
        · have := ih t (acc ++ [two a b]) (by omega)
          simp at this ⊢
          omega
        · simp
theorem rd_rr : ∀ (n : Nat) (l acc : List UInt8), l.length ≤ n → QpP.rd acc l = byRef acc l := by
  intro n
  induction n with
  | zero =>
    intro l acc h
    obtain rfl := List.length_eq_zero_iff.1 (by omega : l.length = 0)
    simp [QpP.rd, byRef, rr]
  | succ n ih =>
    intro l acc h
    cases l with
    | nil => simp [QpP.rd, byRef, rr]
    | cons c t =>
      simp only [List.length_cons] at h
      by_cases hf : (itself c || QpP.blank c) = true
      · rw [rd_free acc c t hf, ih t _ (by omega)]
        unfold byRef
        cases t with
        | nil =>
          have hc : c ≠ 61 := fun e => by rw [e, free61] at hf; cases hf
          rw [if_neg (by simp), if_neg (by simpa using hc), rr_free c [] hf]
          simp [rr]
        | cons d u =>
          have e1 : (c :: d :: u).getLast? = (d :: u).getLast? := by simp [List.getLast?_cons]
          have e2 : (c :: d :: u).dropLast = c :: (d :: u).dropLast := rfl
          rw [e1, e2, rr_free c _ hf, rr_free c _ hf]
          split
          · cases rr (d :: u).dropLast <;> simp
          · cases rr (d :: u) <;> simp
      · have hf' : (itself c || QpP.blank c) = false := by simpa using hf
        by_cases h61 : c = 61
        · subst h61
          match t, h with
          | [], _ => rw [rd_soft]; simp [byRef, rr]
          | [a], _ =>
            rw [QpP.rd, if_neg hf]
            unfold byRef
            have e2 : ([61, a] : List UInt8).dropLast = [61] := rfl
            rw [e2, rr_short [] (by simp), rr_short [a] (by simp)]
            split <;> rfl
          | a :: b :: u, h =>
            simp only [List.length_cons] at h
            by_cases hh : hex2 a b = true
            · rw [rd_hex acc a b u hh, ih u _ (by omega)]
              unfold byRef
              cases u with
              | nil =>
                have hb := hx61 a b hh
                rw [if_neg (by simp), if_neg (by simpa using hb), rr_hex, if_pos hh]
                simp [rr]
              | cons d v =>
                have e1 : (61 :: a :: b :: d :: v : List UInt8).getLast? = (d :: v).getLast? := by simp [List.getLast?_cons]
                have e2 : (61 :: a :: b :: d :: v : List UInt8).dropLast = 61 :: a :: b :: (d :: v).dropLast := rfl
                rw [e1, e2, rr_hex, rr_hex, if_pos hh, if_pos hh]
                split
                · cases rr (d :: v).dropLast <;> simp
                · cases rr (d :: v) <;> simp
            · rw [QpP.rd, if_neg hf, if_neg (fun e => hh e.2)]
              unfold byRef
              have e3 : rr (61 :: a :: b :: u) = none := by rw [rr_hex, if_neg hh]
              have e4 : (61 :: a :: b :: u : List UInt8).getLast? = some 61 → rr (61 :: a :: b :: u : List UInt8).dropLast = none := by
                intro hl
                cases u with
                | nil => exact rr_short [a] (by simp)
                | cons d v =>
                  have e2 : (61 :: a :: b :: d :: v : List UInt8).dropLast = 61 :: a :: b :: (d :: v).dropLast := rfl
                  rw [e2, rr_hex, if_neg hh]
              rw [e3]
              split
              · rename_i hl
                rw [e4 hl]
              · rfl
        · rw [rd_bad acc c t hf' h61]
          unfold byRef
          rw [rr_bad c t hf' h61]
          split
          · rename_i hl
            cases t with
            | nil => simp at hl; exact absurd hl h61
            | cons d u => rw [show (c :: d :: u).dropLast = c :: (d :: u).dropLast from rfl, rr_bad c _ hf' h61]
          · rfl
theorem ex1 (s : ByteArray) (i : Nat) (h : i < (L s).length) : s.extract ((i : Nat) : Int).toNat ((i + 1 : Nat) : Int).toNat = S [(L s)[i]] := by
  apply L_inj
  rw [L_ext, L_S]
  show ((L s).take (i + 1)).drop i = _
  rw [List.take_add_one, List.drop_append_of_le_length (by rw [List.length_take]; omega), List.drop_eq_nil_of_le (by rw [List.length_take]; omega), List.getElem?_eq_getElem h]
  rfl
theorem ex2 (s : ByteArray) (i : Nat) : L (s.extract ((i + 1 : Nat) : Int).toNat ((i + 3 : Nat) : Int).toNat) = ((L s).drop (i + 1)).take 2 := by
  rw [L_ext, Int.toNat_natCast, Int.toNat_natCast, List.drop_take]
  congr 1
  omega
theorem wi2 (i : Nat) (h : i < 4611686018427387000) : wrap64 ((i : Int) + 2) = ((i + 2 : Nat) : Int) := by rw [w64 (by omega) (by omega)]; rfl
theorem one8 (c : UInt8) : strOfNums [(c.toNat : Int)] = S [c] := by
  have := nums_I8 [c]
  exact this
theorem dec_l2 (X : List ByteArray) (soft : Bool) (j : Int) (t : ByteArray) (ht : (L t).length ≤ 1000000) (R : ByteArray × Int) (d : Nat) : ∀ (i : Nat) (acc : List UInt8), i ≤ (L t).length → (L t).length - i ≤ d → acc.length ≤ 100000000000000 + i →
    (∀ u, rr ((L t).drop i) = some u → Ev (fun k => bulletinref17_Decode.l0 k X (S (acc ++ u)) soft (wrap64 (j + 1))) R) → (rr ((L t).drop i) = none → R = (S [], 3)) →
    Ev (fun k => bulletinref17_Decode.l2 k X (S acc) soft j t (i : Int)) R := by
  induction d with
  | zero =>
    intro i acc hi hd ha h1 h2
    refine up ?_
    simp only [bulletinref17_Decode.l2]
    refine neg (by rw [sz]; omega) ?_
    have := h1 [] (by rw [List.drop_eq_nil_of_le (by omega), rr])
    rw [List.append_nil] at this
    exact this
  | succ d ih =>
    intro i acc hi hd ha h1 h2
    have st := sz t
    have za := zS acc
    refine up ?_
    simp only [bulletinref17_Decode.l2]
    by_cases hil : i < (L t).length
    case neg =>
      refine neg (by omega) ?_
      have := h1 [] (by rw [List.drop_eq_nil_of_le (by omega), rr])
      rw [List.append_nil] at this
      exact this
    obtain ⟨c, hc⟩ : ∃ c, (L t)[i] = c := ⟨_, rfl⟩
    have hb : bt t (i : Int) = (c.toNat : Int) := by rw [btn t i hil, hc]
    have hdr : (L t).drop i = c :: (L t).drop (i + 1) := by rw [List.drop_eq_getElem_cons hil, hc]
    have hx1 := ex1 t i hil
    rw [hc] at hx1
    have z1 : (S [c]).size = 1 := rfl
    refine pos (by omega) (pos (by omega) ?_)
    rw [hb]
    have free : (itself c || QpP.blank c) = true → Ev (fun k => if (i : Int) ≤ ((i + 1 : Nat) : Int) then (if ((i + 1 : Nat) : Int) ≤ (t.size : Int) then (if (S acc).size + (S [c]).size ≤ 9223372036854775807 then (bulletinref17_Decode.l2 k X (S acc ++ S [c]) soft j t ((i + 1 : Nat) : Int)) else (none)) else (none)) else (none)) R := by
      intro hf
      rw [hdr, rr_free c _ hf] at h1 h2
      refine pos (by omega) (pos (by omega) (pos (by omega) ?_))
      rw [S_app]
      refine ih (i + 1) (acc ++ [c]) (by omega) (by omega) (by simp; omega) (fun u hu => ?_) (fun hu => ?_)
      · have := h1 (c :: u) (by rw [hu]; rfl)
        rw [List.append_assoc]
        exact this
      · exact h2 (by rw [hu]; rfl)
    by_cases h61 : c = 61
    · subst h61
      refine pos rfl ?_
      rw [hdr] at h1 h2
      rw [wi2 i (by omega)]
      by_cases hi2 : i + 2 < (L t).length
      · refine neg (by omega) ?_
        rw [wi i (by omega), wi3 i (by omega)]
        refine pos (by omega) (pos (by omega) (pos (by omega) ?_))
        refine Ev.bind (rbyte_ev _) ?_
        rw [ex2]
        obtain ⟨a, ha1⟩ : ∃ a, (L t)[i + 1]'(by omega) = a := ⟨_, rfl⟩
        obtain ⟨b, hb1⟩ : ∃ b, (L t)[i + 2]'(by omega) = b := ⟨_, rfl⟩
        have hd1 : (L t).drop (i + 1) = a :: b :: (L t).drop (i + 3) := by rw [List.drop_eq_getElem_cons (by omega : i + 1 < (L t).length), ha1, List.drop_eq_getElem_cons (by omega : i + 1 + 1 < (L t).length), hb1]
        rw [hd1] at h1 h2 ⊢
        rw [rr_hex] at h1 h2
        by_cases hh : hex2 a b = true
        · have hv : byteV ((a :: b :: (L t).drop (i + 3)).take 2) = (((two a b).toNat : Int), true) := by simp [byteV, hh]
          rw [hv]
          rw [if_pos hh] at h1 h2
          refine pos rfl (sbind ?_)
          have z2 : (S [two a b]).size = 1 := rfl
          rw [one8]
          refine pos (by omega) ?_
          rw [S_app, show wrap64 (((i + 2 : Nat) : Int) + 1) = ((i + 3 : Nat) : Int) from wi (i + 2) (by omega)]
          refine ih (i + 3) (acc ++ [two a b]) (by omega) (by omega) (by simp; omega) (fun u hu => ?_) (fun hu => ?_)
          · have := h1 (two a b :: u) (by rw [hu]; rfl)
            rw [List.append_assoc]
            exact this
          · exact h2 (by rw [hu]; rfl)
        · have hv : byteV ((a :: b :: (L t).drop (i + 3)).take 2) = (0, false) := by simp [byteV, hh]
          rw [hv]
          rw [if_neg hh] at h2
          exact neg (by simp) (now' (h2 rfl).symm)
      · refine pos (by omega) (now' ?_)
        exact (h2 (rr_short _ (by rw [List.length_drop]; omega))).symm
    · refine neg (fun e => h61 (u8i (d := 61) e)) ?_
      rw [rit_f]
      refine sbind ?_
      rw [wi i (by omega), hx1]
      by_cases hit : itself c = true
      · exact pos hit (free (by rw [hit]; rfl))
      · refine neg hit ?_
        rw [rbl_f]
        refine sbind ?_
        by_cases hbl : QpP.blank c = true
        · exact pos hbl (free (by rw [hbl]; simp))
        · refine neg hbl (now' ?_)
          rw [hdr] at h2
          exact (h2 (rr_bad c _ (by simp at hit hbl; rw [hit, hbl]; rfl) h61)).symm
/-- an answer -/
def outV : Option (List UInt8) → ByteArray × Int
  | some r => (S r, 0)
  | none => (S [], 3)
theorem trimB_snoc (l : List UInt8) (c : UInt8) : trimB (l ++ [c]) = if QpP.blank c = true then trimB l else l ++ [c] := by
  unfold trimB
  rw [List.reverse_append, List.reverse_singleton, List.singleton_append, List.dropWhile_cons]
  split
  · rfl
  · simp
theorem trimB_nil : trimB [] = [] := rfl
theorem trimB_len (l : List UInt8) : (trimB l).length ≤ l.length := by
  unfold trimB
  rw [List.length_reverse]
  have := (List.dropWhile_sublist (p := QpP.blank) (l := l.reverse)).length_le
  rw [List.length_reverse] at this
  exact this
theorem last_at (t : ByteArray) (l : List UInt8) (c : UInt8) (h : L t = l ++ [c]) : bt t ((l.length : Nat) : Int) = (c.toNat : Int) := by
  rw [btd, h, List.getD_eq_getElem?_getD, List.getElem?_append_right (Nat.le_refl _)]
  simp
theorem cut_last (t : ByteArray) (l : List UInt8) (c : UInt8) (h : L t = l ++ [c]) : t.extract 0 ((l.length : Nat) : Int).toNat = S l := by
  apply L_inj
  rw [L_from_start, L_S, Int.toNat_natCast, h, List.take_left]
theorem w_sub (n : Nat) (h : n < 4611686018427387000) : wrap64 (((n + 1 : Nat) : Int) - 1) = (n : Int) := by rw [w64 (by omega) (by omega)]; omega
theorem dec_l1 (X : List ByteArray) (out : ByteArray) (soft : Bool) (j : Int) (R : ByteArray × Int) : ∀ (n : Nat) (t : ByteArray), (L t).length ≤ n → (L t).length ≤ 1000000 →
    Ev (fun k => bulletinref17_Decode.j2 k X out soft j (S (trimB (L t)))) R → Ev (fun k => bulletinref17_Decode.l1 k X out soft j t) R := by
  intro n
  induction n with
  | zero =>
    intro t h h0 hj
    have hl : L t = [] := List.length_eq_zero_iff.1 (by omega)
    refine up ?_
    simp only [bulletinref17_Decode.l1]
    refine neg (by rw [sz, hl]; simp) ?_
    rw [hl, trimB_nil] at hj
    have : t = S [] := L_inj (by rw [hl, L_S])
    rw [this]
    exact hj
  | succ n ih =>
    intro t h h0 hj
    rcases List.eq_nil_or_concat (L t) with hl | ⟨l, c, hl⟩
    · refine up ?_
      simp only [bulletinref17_Decode.l1]
      refine neg (by rw [sz, hl]; simp) ?_
      rw [hl, trimB_nil] at hj
      have : t = S [] := L_inj (by rw [hl, L_S])
      rw [this]
      exact hj
    · rw [List.concat_eq_append] at hl
      have hz : t.size = l.length + 1 := by rw [sz, hl]; simp
      rw [hl] at h h0 hj
      simp only [List.length_append, List.length_cons, List.length_nil] at h h0
      refine up ?_
      simp only [bulletinref17_Decode.l1, hz]
      rw [w_sub l.length (by omega)]
      refine pos (by omega) (pos (by omega) (pos (by omega) ?_))
      rw [last_at t l c hl, rbl_f, cut_last t l c hl]
      refine sbind ?_
      rw [trimB_snoc] at hj
      by_cases hb : QpP.blank c = true
      · rw [if_pos hb] at hj
        refine pos hb (pos (by omega) ?_)
        exact ih (S l) (by rw [L_S]; omega) (by rw [L_S]; omega) (by rw [L_S]; exact hj)
      · rw [if_neg hb] at hj
        refine neg hb ?_
        have : t = S (l ++ [c]) := L_inj (by rw [hl, L_S])
        rw [this]
        exact hj
theorem dec_j3 (X : List ByteArray) (acc : List UInt8) (j : Int) (u : List UInt8) (hu : u.length ≤ 1000000) (ha : acc.length ≤ 100000000000000) (R : ByteArray × Int)
    (h1 : ∀ tx mo, QpP.rd [] u = (tx, mo, true) → Ev (fun k => bulletinref17_Decode.l0 k X (S (acc ++ tx)) mo (wrap64 (j + 1))) R) (h2 : (QpP.rd [] u).2.2 = false → R = (S [], 3)) :
    Ev (fun k => bulletinref17_Decode.j3 k X (S acc) j (S u)) R := by
  have hrd := rd_rr u.length u [] (Nat.le_refl _)
  have whole : ∀ (mo : Bool) (v : List UInt8), v.length ≤ 1000000 → (QpP.rd [] u = match rr v with | some x => ([] ++ x, mo, true) | none => ([], false, false)) →
      Ev (fun k => bulletinref17_Decode.j5 k X (S acc) mo j (S v)) R := by
    intro mo v hv he
    refine up ?_
    simp only [bulletinref17_Decode.j5]
    refine dec_l2 X mo j (S v) (by rw [L_S]; exact hv) R v.length 0 acc (by omega) (by rw [L_S]; omega) (by omega) (fun x hx => ?_) (fun hx => ?_)
    · rw [List.drop_zero, L_S] at hx
      rw [hx] at he
      exact h1 x mo he
    · rw [List.drop_zero, L_S] at hx
      rw [hx] at he
      exact h2 (by rw [he])
  refine up ?_
  simp only [bulletinref17_Decode.j3]
  rcases List.eq_nil_or_concat u with hl | ⟨l, c, hl⟩
  · subst hl
    refine neg (by rw [zS]; simp) (up ?_)
    simp only [bulletinref17_Decode.j4]
    exact neg (by simp) (whole false [] (by simp) (by rw [hrd]; simp [byRef, rr]))
  · rw [List.concat_eq_append] at hl
    subst hl
    have hz : (S (l ++ [c])).size = l.length + 1 := by rw [zS]; simp
    simp only [List.length_append, List.length_cons, List.length_nil] at hu
    simp only [hz]
    rw [w_sub l.length (by omega)]
    refine pos (by omega) (pos (by omega) (pos (by omega) ?_))
    rw [last_at (S (l ++ [c])) l c (by rw [L_S])]
    refine up ?_
    simp only [bulletinref17_Decode.j4, hz]
    rw [w_sub l.length (by omega), cut_last (S (l ++ [c])) l c (by rw [L_S])]
    unfold byRef at hrd
    by_cases h61 : c = 61
    · subst h61
      rw [if_pos (by simp)] at hrd
      refine pos (by rfl) (pos (by omega) (pos (by omega) ?_))
      exact whole true l (by omega) (by rw [hrd]; simp)
    · have hne : ¬ (((c.toNat : Int) == 61) = true) := by
        rw [beq_iff_eq]
        exact fun e => h61 (u8i (d := 61) e)
      rw [if_neg (by simpa using h61)] at hrd
      refine neg hne ?_
      have hb : ((c.toNat : Int) == 61) = false := by simpa using hne
      rw [hb]
      exact whole false (l ++ [c]) (by simp; omega) (by rw [hrd])
theorem dec_l0 (ps : List (List UInt8)) (hp : ∀ p ∈ ps, p.length ≤ 1000000) (hn : ps.length ≤ 2000000) (d : Nat) : ∀ (i : Nat) (soft : Bool) (acc : List UInt8), i ≤ ps.length → ps.length - i ≤ d → acc.length ≤ i * 2000000 →
    Ev (fun k => bulletinref17_Decode.l0 k (ps.map S) (S acc) soft (i : Int)) (outV (dec (ps.drop i) soft acc)) := by
  induction d with
  | zero =>
    intro i soft acc hi hd ha
    refine up ?_
    simp only [bulletinref17_Decode.l0]
    refine neg (by rw [List.length_map]; omega) (now' ?_)
    rw [List.drop_eq_nil_of_le (by omega), dec]; rfl
  | succ d ih =>
    intro i soft acc hi hd ha
    refine up ?_
    simp only [bulletinref17_Decode.l0]
    by_cases hil : i < ps.length
    case neg =>
      refine neg (by rw [List.length_map]; omega) (now' ?_)
      rw [List.drop_eq_nil_of_le (by omega), dec]; rfl
    have hbig : i * 2000000 ≤ 2000000 * 2000000 := Nat.mul_le_mul_right _ (by omega)
    have hpi := hp ps[i] (List.getElem_mem hil)
    have htl := trimB_len ps[i]
    refine pos (by rw [List.length_map]; omega) (pos (by omega) ?_)
    rw [rdOf_nat _ _ i (by rw [List.length_map]; exact hil), List.getElem_map]
    refine dec_l1 _ _ _ _ _ ps[i].length _ (by rw [L_S]; exact Nat.le_refl _) (by rw [L_S]; omega) (up ?_)
    rw [L_S]
    simp only [bulletinref17_Decode.j2]
    have hrl : (QpP.rd [] (trimB ps[i])).1.length ≤ 1000000 := by
      have := rd_len (trimB ps[i]).length (trimB ps[i]) [] (Nat.le_refl _)
      simp only [List.length_nil, Nat.zero_add] at this
      omega
    have fin : ∀ a2 : List UInt8, a2.length ≤ i * 2000000 + 2 → (if soft = true then acc else acc ++ [13, 10]) = a2 → Ev (fun k => bulletinref17_Decode.j3 k (ps.map S) (S a2) (i : Int) (S (trimB ps[i]))) (outV (dec (ps.drop i) soft acc)) := by
      intro a2 h2 he
      rw [List.drop_eq_getElem_cons hil, dec]
      refine dec_j3 _ a2 _ _ (by omega) (by omega) _ (fun tx mo hr => ?_) (fun hr => ?_)
      · rw [hr] at hrl ⊢
        simp only [if_true]
        rw [he, wi i (by omega)]
        exact ih (i + 1) mo (a2 ++ tx) (by omega) (by omega) (by simp only [List.length_append]; simp only at hrl; omega)
      · rw [if_neg (by rw [hr]; simp)]; rfl
    cases soft with
    | true => exact pos rfl (fin acc (Nat.le_trans ha (Nat.le_add_right _ _)) (if_pos rfl))
    | false =>
      refine neg (by simp) (pos (by rw [zS]; omega) ?_)
      have : S acc ++ (⟨#[13, 10]⟩ : ByteArray) = S (acc ++ [13, 10]) := by rw [← S_app]; rfl
      rw [this]
      exact fin _ (by simp; omega) (if_neg (by simp))
theorem rdecode_ev (s : ByteArray) (hs : (L s).length ≤ 1000000) : Ev (fun k => bulletinref17_Decode.f k s) (outV (QpP.decode (L s))) := by
  simp only [bulletinref17_Decode.f]
  refine Ev.bind (lines_ev s (by omega)) ?_
  obtain ⟨h1, h2⟩ := pcs_size (L s).length (L s) (Nat.le_refl _)
  have := dec_l0 (pcs (L s)) (fun p hp => Nat.le_trans (h1 p hp) hs) (by omega) (pcs (L s)).length 0 true [] (by omega) (by omega) (by simp)
  rw [List.drop_zero] at this
  exact this
/-! ### the program's Decode -/
theorem trim_f (p : List UInt8) (hp : p.length ≤ 1000000) : strings_TrimRight.f (S p) (⟨#[32, 9]⟩ : ByteArray) = some (S (trimB p)) := by
  unfold strings_TrimRight.f
  rw [if_pos ⟨by rw [zS]; omega, by decide, by decide⟩]
  congr 1
  show S (Lib.trimRightS (L (S p)) [32, 9]) = S (trimB p)
  rw [L_S]
  unfold Lib.trimRightS trimB
  congr 3
  funext c
  simp only [List.contains_cons, List.contains_nil, Bool.or_false]
  rfl
theorem dec_go (m : Nat) (hm : m ≤ 1000000) (ps : List (List UInt8)) : ∀ (soft : Bool) (acc : List UInt8), (∀ p ∈ ps, p.length ≤ m) → acc.length + (ps.length * (m + 2)) ≤ 1000000000 →
    Ev (fun k => qp_Decode.go k (ps.map S) soft (S acc)) (outV (dec ps soft acc)) := by
  induction ps with
  | nil =>
    intro soft acc _ _
    exact now' rfl
  | cons p t ih =>
    intro soft acc hp hl
    have hpp := hp p (by simp)
    have htl := trimB_len p
    simp only [List.length_cons] at hl
    rw [Nat.add_mul, Nat.one_mul] at hl
    have hrl : (QpP.rd [] (trimB p)).1.length ≤ m := by
      have := rd_len (trimB p).length (trimB p) [] (Nat.le_refl _)
      simp only [List.length_nil, Nat.zero_add] at this
      omega
    simp only [List.map_cons, qp_Decode.go]
    rw [trim_f p (by omega)]
    refine sbind (Ev.bind (read_ev (S (trimB p)) (by rw [L_S]; omega)) ?_)
    rw [L_S, dec]
    by_cases hok : (QpP.rd [] (trimB p)).2.2 = true
    · rw [if_pos hok]
      refine pos hok (pos (by rw [zS, zS]; omega) ?_)
      have e : ((if soft = true then S acc else S acc ++ (⟨#[13, 10]⟩ : ByteArray)) ++ S (QpP.rd [] (trimB p)).1) = S ((if soft = true then acc else acc ++ [13, 10]) ++ (QpP.rd [] (trimB p)).1) := by
        cases soft with
        | true => rw [if_pos rfl, if_pos rfl, S_app]
        | false =>
          rw [if_neg (by simp), if_neg (by simp), ← S_app, ← S_app]
          rfl
      rw [e]
      refine ih _ _ (fun q hq => hp q (by simp [hq])) ?_
      rw [List.length_append]
      have : (if soft = true then acc else acc ++ [13, 10]).length ≤ acc.length + 2 := by
        split
        · omega
        · simp
      omega
    · rw [if_neg hok]
      exact neg hok (now' rfl)
theorem decode_ev (s : ByteArray) (hs : (L s).length ≤ 7000) : Ev (fun k => qp_Decode.f k s) (outV (QpP.decode (L s))) := by
  simp only [qp_Decode.f]
  obtain ⟨h1, h2⟩ := pcs_size (L s).length (L s) (Nat.le_refl _)
  refine pos (by rw [sz]; omega) ?_
  have hb : (pcs (L s)).length * (7000 + 2) ≤ 7001 * (7000 + 2) := Nat.mul_le_mul_right _ (by omega)
  exact dec_go 7000 (by omega) (pcs (L s)) true [] (fun p hp => Nat.le_trans (h1 p hp) hs) (by simp only [List.length_nil]; omega)
end Go.Proofs.YtaflpmpffppfaaaDoor.QpQ
/- qp: the five statements, in plain words. -/
namespace Go.Proofs.YtaflpmpffppfaaaDoor.QpQ
open Go.RowKit Go.Proofs.YtaflpmpffppfaaaDoor.X Go.Proofs.YtaflpmpffppfaaaDoorW.PrintWords Go.Proofs.YtaflpmpffppfaaaDoorW.PrintLast Go.Proofs.YtaflpmpffppfaaaDoorW.PrintMore Go.Proofs.YtaflpmpffppfaaaDoor.Aid
open Go.Proofs.YtaflpmpffppfaaaDoor.QpP Go.Proofs.YtaflpmpffppfaaaDoor.PcL
set_option linter.unusedVariables false
set_option linter.unusedSimpArgs false
theorem enc_f (s : ByteArray) (h : (L s).length ≤ 1000000) : qp_Encode.f s = some (S (enc (L s))) := by
  unfold qp_Encode.f
  rw [if_pos (by rw [sz]; exact h)]
theorem writes_ev (a0 : ByteArray) (h0 : a0.size ≤ 140737488351232) : Ev (fun k => bulletinlaw17_QpWrites.f k a0) true := by
  simp only [bulletinlaw17_QpWrites.f]
  have hz := sz a0
  by_cases hb : a0.size ≤ 1000
  · refine neg (by omega) ?_
    rw [enc_f a0 (by omega)]
    refine sbind (Ev.bind (rencode_ev a0 (by omega)) (pos rfl (Ev.bind works_ev (now' rfl))))
  · exact pos (by omega) (Ev.bind works_ev (now' rfl))
theorem reads_ev (a0 a1 : ByteArray) (h0 : a0.size ≤ 140737488351232) (h1 : a1.size ≤ 140737488351232) : Ev (fun k => bulletinlaw17_QpReads.f k a0 a1) true := by
  simp only [bulletinlaw17_QpReads.f]
  have hz := sz a0
  have big : Ev (fun k => bulletinlaw17_QpReads.j0 k a0 a1 true) true := by
    refine up ?_
    simp only [bulletinlaw17_QpReads.j0]
    exact pos trivial (Ev.bind works_ev (now' rfl))
  by_cases hb : a0.size ≤ 1000
  case neg => exact pos (by omega) big
  refine neg (by omega) ?_
  by_cases hb1 : (a1.size : Int) > 1000
  · rw [decide_eq_true hb1]; exact big
  rw [decide_eq_false hb1]
  refine up ?_
  simp only [bulletinlaw17_QpReads.j0]
  refine neg (by simp) (Ev.bind (decode_ev a0 (by omega)) (Ev.bind (rdecode_ev a0 (by omega)) (Ev.bind (byte_ev a1) (Ev.bind (rbyte_ev a1) ?_))))
  exact pos rfl (pos rfl (pos rfl (pos (by simp) (Ev.bind works_ev (now' rfl)))))
theorem back_l0 (a0 : ByteArray) (h0 : (L a0).length ≤ 1000) (n : Nat) (hn : n ≤ 20) (d : Nat) : ∀ i : Nat, i ≤ n → n - i ≤ d →
    Ev (fun k => bulletinlaw17_QpBack.l0 k a0 (n : Int) (S (enc (L a0) ++ List.replicate i 32)) (i : Int)) true := by
  have hl := enc_len (L a0)
  induction d with
  | zero =>
    intro i hi hd
    refine up ?_
    simp only [bulletinlaw17_QpBack.l0]
    refine neg (by omega) (Ev.bind (decode_ev _ (by rw [L_S, List.length_append, List.length_replicate]; omega)) ?_)
    rw [L_S, back]
    exact pos rfl (now' (by simp [outV, S_L]))
  | succ d ih =>
    intro i hi hd
    refine up ?_
    simp only [bulletinlaw17_QpBack.l0]
    by_cases hlt : i < n
    · refine pos (by omega) (pos (by rw [zS, List.length_append, List.length_replicate]; omega) ?_)
      have : S (enc (L a0) ++ List.replicate i 32) ++ (⟨#[32]⟩ : ByteArray) = S (enc (L a0) ++ List.replicate (i + 1) 32) := by
        rw [List.replicate_succ', ← List.append_assoc, ← S_app]; rfl
      rw [this, wi i (by omega)]
      exact ih (i + 1) (by omega) (by omega)
    · refine neg (by omega) (Ev.bind (decode_ev _ (by rw [L_S, List.length_append, List.length_replicate]; omega)) ?_)
      rw [L_S, back]
      exact pos rfl (now' (by simp [outV, S_L]))
theorem back_ev (a0 : ByteArray) (a1 : Int) (h0 : a0.size ≤ 140737488351232) (h1 : (Lit.int .i64 a1).wf = true) : Ev (fun k => bulletinlaw17_QpBack.f k a0 a1) true := by
  simp only [bulletinlaw17_QpBack.f]
  have hz := sz a0
  have tr : Ev (fun k => bulletinlaw17_QpBack.j0 k a0 a1 true) true := by
    refine up ?_
    simp only [bulletinlaw17_QpBack.j0]
    exact pos trivial (now' rfl)
  refine Ev.bind works_ev (pos rfl ?_)
  by_cases hb : a0.size ≤ 1000
  case neg => exact pos (by omega) tr
  refine neg (by omega) ?_
  by_cases hn : a1 < 0
  · exact pos hn tr
  refine neg hn ?_
  by_cases h20 : a1 > 20
  · rw [decide_eq_true h20]; exact tr
  rw [decide_eq_false h20]
  refine up ?_
  simp only [bulletinlaw17_QpBack.j0]
  refine neg (by simp) ?_
  rw [enc_f a0 (by omega)]
  refine sbind ?_
  obtain ⟨n, rfl⟩ : ∃ n : Nat, a1 = (n : Int) := ⟨a1.toNat, by omega⟩
  have := back_l0 a0 (by omega) n (by omega) n 0 (by omega) (by omega)
  rw [List.replicate_zero, List.append_nil] at this
  exact this
theorem lines_law_ev (a0 a1 : ByteArray) (h0 : a0.size ≤ 140737488351232) (h1 : a1.size ≤ 140737488351232) : Ev (fun k => bulletinlaw17_QpLines.f k a0 a1) true := by
  simp only [bulletinlaw17_QpLines.f]
  have hz := sz a0
  have hz1 := sz a1
  have tr : Ev (fun k => bulletinlaw17_QpLines.j0 k a0 a1 true) true := by
    refine up ?_
    simp only [bulletinlaw17_QpLines.j0]
    exact pos trivial (now' rfl)
  refine Ev.bind works_ev (pos rfl ?_)
  by_cases hb : a0.size ≤ 500
  case neg => exact pos (by omega) tr
  refine neg (by omega) ?_
  by_cases hb1 : a1.size ≤ 500
  case neg => exact pos (by omega) tr
  refine neg (by omega) ?_
  have main : (L a0).getLast? ≠ some 13 → Ev (fun k => bulletinlaw17_QpLines.j0 k a0 a1 false) true := by
    intro hl
    refine up ?_
    simp only [bulletinlaw17_QpLines.j0]
    have hz3 : (a0 ++ (⟨#[13, 10]⟩ : ByteArray)).size = a0.size + 2 := by rw [ByteArray.size_append]; rfl
    refine neg (by simp) (pos (by omega) (pos (by rw [hz3]; omega) ?_))
    have e0 := enc_len (L a0)
    have e1 := enc_len (L a1)
    rw [enc_f _ (by rw [L_app, L_app, List.length_append, List.length_append]; show _ + 2 + _ ≤ _; omega), enc_f a0 (by omega), enc_f a1 (by omega)]
    refine sbind (sbind (pos (by rw [zS]; omega) (sbind (pos ?_ (now' ?_)))))
    · rw [ByteArray.size_append, zS, zS]
      show _ + 2 + _ ≤ _
      omega
    · have := lines_law (L a0) (L a1) hl
      rw [L_app, L_app]
      show (((S (enc (L a0 ++ [13, 10] ++ L a1))).toList == (S (enc (L a0)) ++ (⟨#[13, 10]⟩ : ByteArray) ++ S (enc (L a1))).toList) : Bool) = true
      rw [this, beq_L, decide_eq_true_eq, ← S_app, ← S_app]
      rfl
  rcases List.eq_nil_or_concat (L a0) with hl | ⟨l, c, hl⟩
  · refine neg (by rw [hz, hl]; simp) (main (by rw [hl]; simp))
  · rw [List.concat_eq_append] at hl
    have hzl : a0.size = l.length + 1 := by rw [hz, hl]; simp
    simp only [hzl]
    rw [w_sub l.length (by omega)]
    refine pos (by omega) (pos (by omega) (pos (by omega) ?_))
    rw [last_at a0 l c hl]
    by_cases h13 : c = 13
    · subst h13
      exact tr
    · have hb : ((c.toNat : Int) == 13) = false := by
        rw [beq_eq_false_iff_ne]
        exact fun e => h13 (u8i (d := 13) e)
      rw [hb]
      exact main (by rw [hl]; simpa using h13)
/-! ### short, plain lines -/
/-- what is left: the rest of a piece, and more pieces -/
def restE (p : List UInt8) (ps : List (List UInt8)) : List UInt8 := p ++ (ps.map fun x => [13, 10] ++ x).flatten
theorem restE_cons (p q : List UInt8) (ps : List (List UInt8)) : restE p (q :: ps) = p ++ 13 :: 10 :: restE q ps := by simp [restE]
theorem okc_vals (c : UInt8) (h : okc c = true) : ¬ ((c.toNat : Int) = 13) ∧ ((c.toNat : Int) = 9 ∨ ¬ ((c.toNat : Int) = 9) ∧ ¬ ((c.toNat : Int) < 32) ∧ ¬ ((c.toNat : Int) > 126)) := by
  have : ∀ n : Nat, n < 256 → okc (UInt8.ofNat n) = true → n = 9 ∨ (32 ≤ n ∧ n ≤ 126) := by decide +kernel
  have := this c.toNat c.toNat_lt (by rw [UInt8.ofNat_toNat]; exact h)
  omega
theorem blank_vals (c : UInt8) (h : QpP.blank c = false) : ¬ ((c.toNat : Int) = 32) ∧ ((c.toNat : Int) == 9) = false := by
  unfold QpP.blank at h
  simp only [Bool.or_eq_false_iff, beq_eq_false_iff_ne] at h
  refine ⟨fun e => h.1 (u8i (d := 32) e), ?_⟩
  rw [beq_eq_false_iff_ne]
  exact fun e => h.2 (u8i (d := 9) e)
theorem wwi (i : Nat) (h : i < 4611686018427387000) : wrap64 (((i + 1 : Nat) : Int) + 1) = ((i + 2 : Nat) : Int) := wi (i + 1) (by omega)
theorem width_l0 (t : ByteArray) (ht : (L t).length ≤ 1000000) (n : Nat) : ∀ (i at_ dn : Nat) (p : List UInt8) (ps : List (List UInt8)), (L t).length - i ≤ n → i ≤ (L t).length → (L t).drop i = restE p ps → at_ + dn = i → dn + p.length ≤ 76 →
    (∀ x ∈ p, okc x = true) → endOk p → (∀ q ∈ ps, (∀ x ∈ q, okc x = true) ∧ q.length ≤ 76 ∧ endOk q) → (p = [] → i = 0 ∨ ∃ c, (L t)[i - 1]? = some c ∧ QpP.blank c = false) →
    Ev (fun k => bulletinlaw17_QpWidth.l0 k t (at_ : Int) (i : Int)) true := by
  induction n with
  | zero =>
    intro i at_ dn p ps hn hi hd hat hl hp he hps hb
    have hz := sz t
    have hnil : restE p ps = [] := by rw [← hd, List.drop_eq_nil_of_le (by omega)]
    have hpn : p = [] := by unfold restE at hnil; exact (List.append_eq_nil_iff.1 hnil).1
    refine up ?_
    simp only [bulletinlaw17_QpWidth.l0]
    refine neg (by omega) ?_
    by_cases h0 : t.size = 0
    · exact pos (by omega) (now' rfl)
    · refine neg (by omega) ?_
      obtain ⟨m, hm⟩ : ∃ m, t.size = m + 1 := ⟨t.size - 1, by omega⟩
      simp only [hm]
      rw [w_sub m (by omega)]
      refine pos (by omega) (pos (by omega) ?_)
      rcases hb hpn with hb | ⟨c, hc, hbl⟩
      · omega
      · have hv := blank_vals c hbl
        have e : bt t ((m : Nat) : Int) = (c.toNat : Int) := by
          rw [btd, List.getD_eq_getElem?_getD, show m = i - 1 by omega, hc]; rfl
        rw [e]
        refine neg hv.1 (now' ?_)
        rw [bne, hv.2]; rfl
  | succ n ih =>
    intro i at_ dn p ps hn hi hd hat hl hp he hps hb
    have hz := sz t
    cases p with
    | cons c p =>
      have hil : i < (L t).length := by
        rcases Nat.lt_or_ge i (L t).length with h | h
        · exact h
        · rw [List.drop_eq_nil_of_le h] at hd; simp [restE] at hd
      have hdd := List.drop_eq_getElem_cons hil
      have hcc : (L t)[i] = c ∧ (L t).drop (i + 1) = restE p ps := by
        rw [hd] at hdd
        simp only [restE, List.cons_append, List.cons.injEq] at hdd
        exact ⟨hdd.1.symm, hdd.2.symm⟩
      have hbt : bt t (i : Int) = (c.toNat : Int) := by rw [btn t i hil, hcc.1]
      obtain ⟨v1, v2⟩ := okc_vals c (hp c (by simp))
      simp only [List.length_cons] at hl
      have next : Ev (fun k => bulletinlaw17_QpWidth.l0 k t (at_ : Int) ((i + 1 : Nat) : Int)) true := by
        refine ih (i + 1) at_ (dn + 1) p ps (by omega) (by omega) hcc.2 (by omega) (by omega) (fun x hx => hp x (by simp [hx])) (fun x hx => ?_) hps (fun hpn => .inr ⟨c, ?_, ?_⟩)
        · refine he x ?_
          cases p with
          | nil => simp at hx
          | cons d u => rw [List.getLast?_cons_cons]; exact hx
        · rw [Nat.add_sub_cancel, List.getElem?_eq_getElem hil, hcc.1]
        · exact he c (by rw [hpn]; simp)
      refine up ?_
      simp only [bulletinlaw17_QpWidth.l0]
      refine pos (by omega) (pos (by omega) ?_)
      rw [hbt, wi i (by omega)]
      refine neg v1 ?_
      have hw : wrap64 (((i + 1 : Nat) : Int) - (at_ : Int)) = ((dn + 1 : Nat) : Int) := by rw [w64 (by omega) (by omega)]; omega
      rw [hw]
      rcases v2 with v2 | ⟨v2, v3, v4⟩
      · exact pos v2 (neg (by omega) next)
      · exact neg v2 (neg v3 (neg v4 (neg (by omega) next)))
    | nil =>
      cases ps with
      | nil =>
        have hnil : (L t).length ≤ i := by
          have := congrArg List.length hd
          rw [List.length_drop] at this
          simp [restE] at this
          omega
        exact (show Ev (fun k => bulletinlaw17_QpWidth.l0 k t (at_ : Int) (i : Int)) true from by
          refine up ?_
          simp only [bulletinlaw17_QpWidth.l0]
          refine neg (by omega) ?_
          by_cases h0 : t.size = 0
          · exact pos (by omega) (now' rfl)
          · refine neg (by omega) ?_
            obtain ⟨m, hm⟩ : ∃ m, t.size = m + 1 := ⟨t.size - 1, by omega⟩
            simp only [hm]
            rw [w_sub m (by omega)]
            refine pos (by omega) (pos (by omega) ?_)
            rcases hb rfl with hb | ⟨c, hc, hbl⟩
            · omega
            · have hv := blank_vals c hbl
              have e : bt t ((m : Nat) : Int) = (c.toNat : Int) := by
                rw [btd, List.getD_eq_getElem?_getD, show m = i - 1 by omega, hc]; rfl
              rw [e]
              refine neg hv.1 (now' ?_)
              rw [bne, hv.2]; rfl)
      | cons q ps =>
        rw [restE_cons, List.nil_append] at hd
        have hlen := congrArg List.length hd
        rw [List.length_drop] at hlen
        simp only [List.length_cons] at hlen
        have hil : i < (L t).length := by omega
        have hil1 : i + 1 < (L t).length := by omega
        have hdd := List.drop_eq_getElem_cons hil
        rw [List.drop_eq_getElem_cons hil1, hd] at hdd
        simp only [List.cons.injEq] at hdd
        obtain ⟨g1, g2, g3⟩ := hdd
        have hbt : bt t (i : Int) = 13 := by rw [btn t i hil, ← g1]; rfl
        have hbt1 : bt t ((i + 1 : Nat) : Int) = 10 := by rw [btn t (i + 1) hil1, ← g2]; rfl
        obtain ⟨q1, q2, q3⟩ := hps q (by simp)
        have next : Ev (fun k => bulletinlaw17_QpWidth.j1 k t (i : Int) false) true := by
          refine up ?_
          simp only [bulletinlaw17_QpWidth.j1]
          rw [wi i (by omega), wwi i (by omega)]
          refine neg (by simp) ?_
          refine ih (i + 2) (i + 2) 0 q ps (by omega) (by omega) g3.symm (by omega) (by omega) q1 q3 (fun r hr => hps r (by simp [hr])) (fun _ => .inr ⟨10, ?_, by decide⟩)
          rw [show i + 2 - 1 = i + 1 by omega, List.getElem?_eq_getElem hil1, ← g2]
        refine up ?_
        simp only [bulletinlaw17_QpWidth.l0]
        refine pos (by omega) (pos (by omega) (pos hbt ?_))
        rw [wi i (by omega)]
        refine neg (by omega) (pos (by omega) (pos (by omega) (pos hbt1 ?_)))
        by_cases hi0 : i = 0
        · exact neg (by omega) next
        · obtain ⟨m, hm⟩ : ∃ m, i = m + 1 := ⟨i - 1, by omega⟩
          rcases hb rfl with hb | ⟨c, hc, hbl⟩
          · omega
          have hv := blank_vals c hbl
          refine pos (by omega) ?_
          have e : bt t (wrap64 ((i : Int) - 1)) = (c.toNat : Int) := by
            rw [hm, w_sub m (by omega), btd, List.getD_eq_getElem?_getD, show m = i - 1 by omega, hc]; rfl
          have e2 : wrap64 ((i : Int) - 1) = (m : Int) := by rw [hm, w_sub m (by omega)]
          rw [e, e2]
          refine pos (by omega) (pos (by omega) (neg hv.1 ?_))
          rw [hv.2]
          exact next
theorem width_ev (a0 : ByteArray) (h0 : a0.size ≤ 140737488351232) : Ev (fun k => bulletinlaw17_QpWidth.f k a0) true := by
  simp only [bulletinlaw17_QpWidth.f]
  have hz := sz a0
  refine Ev.bind works_ev (pos rfl ?_)
  by_cases hb : a0.size ≤ 1000
  case neg => exact pos (by omega) (now' rfl)
  refine neg (by omega) ?_
  rw [enc_f a0 (by omega)]
  refine sbind ?_
  have hl := enc_len (L a0)
  have hok := allP_ok (L a0)
  have he := enc_allP (L a0)
  cases hA : allP (L a0) with
  | nil => exact absurd hA (allP_ne _)
  | cons p ps =>
    rw [hA] at hok he
    rw [joinE_flatten] at he
    obtain ⟨p1, p2, p3⟩ := hok p (by simp)
    exact width_l0 (S (enc (L a0))) (by rw [L_S]; omega) (enc (L a0)).length 0 0 0 p ps (by rw [L_S]; omega) (by omega) (by rw [L_S, List.drop_zero, he]; rfl) rfl (by omega) p1 p3 (fun q hq => hok q (by simp [hq])) (fun _ => .inl rfl)
end Go.Proofs.YtaflpmpffppfaaaDoor.QpQ
