/- Writing replies: the program's text and the reference's are one; so is what each holds to be right. -/
import Derived.Test.YtdjpdbdilcjakaaDoorReplyP
import Derived.Test.YtdjpdbdilcjakaaDoorRDigits
import Derived.Test.YtdjpdbdilcjakaaDoorXW
import Derived.Lib.ItoaLen
namespace Go.Proofs.YtdjpdbdilcjakaaDoor.Reply
open Go.RowKit Go.Proofs.YtdjpdbdilcjakaaDoor.X Go.Proofs.YtdjpdbdilcjakaaDoorW.PrintWords Go.Proofs.YtdjpdbdilcjakaaDoorW.PrintLast Go.Proofs.YtdjpdbdilcjakaaDoorW.PrintMore Go.Proofs.YtdjpdbdilcjakaaDoor.Aid
open Go.Lib (itoa)
set_option linter.unusedVariables false
set_option linter.unusedSimpArgs false

def wr (c : List UInt8) : List ByteArray → List UInt8
  | [] => []
  | x :: xs => c ++ (if xs = [] then [32] else [45]) ++ L x ++ [13, 10] ++ wr c xs
theorem wr_len (c : List UInt8) (hc : c.length ≤ 25) : ∀ l : List ByteArray, (∀ s ∈ l, s.size ≤ 600) → (wr c l).length ≤ 700 * l.length
  | [], _ => by simp [wr]
  | x :: xs, h => by
    have := wr_len c hc xs (fun s hs => h s (by simp [hs]))
    have hx := h x (by simp)
    rw [sz] at hx
    simp only [wr, List.length_append, List.length_cons]
    have : (if xs = [] then ([32] : List UInt8) else [45]).length = 1 := by split <;> rfl
    rw [this]
    simp
    omega
theorem ptext (c : List UInt8) (hc : c.length ≤ 25) : ∀ (l : List ByteArray) (acc : ByteArray), (∀ s ∈ l, s.size ≤ 600) → acc.size + 700 * l.length ≤ 100000 → reply_text (S c) l acc = some (acc ++ S (wr c l))
  | [], acc, _, _ => by
    unfold reply_text wr
    congr 1
    apply L_inj
    rw [L_app, L_S, List.append_nil]
  | x :: xs, acc, h, ha => by
    have hx := h x (by simp)
    have hsc : (S c).size ≤ 25 := by rw [sz, L_S]; exact hc
    simp only [List.length_cons] at ha
    unfold reply_text
    rw [if_pos (by omega)]
    have e1 : (if xs = [] then (⟨#[32]⟩ : ByteArray) else (⟨#[45]⟩ : ByteArray)) = S (if xs = [] then [32] else [45]) := by split <;> rfl
    have e2 : (if xs = [] then ([32] : List UInt8) else [45]).length = 1 := by split <;> rfl
    rw [e1]
    have hn : (acc ++ (S c ++ S (if xs = [] then [32] else [45]) ++ x ++ (⟨#[13, 10]⟩ : ByteArray))).size + 700 * xs.length ≤ 100000 := by
      rw [sz] at hx ha hsc ⊢
      rw [L_S] at hsc
      rw [L_app, L_app, L_app, L_app, L_S, L_S, List.length_append, List.length_append, List.length_append, List.length_append, e2]
      show _ + (_ + _ + _ + 2) + _ ≤ _
      omega
    rw [ptext c hc xs _ (fun s hs => h s (by simp [hs])) hn]
    congr 1
    apply L_inj
    simp only [L_app, L_S, wr, List.append_assoc]
    rfl
def txt (a : Int) (l : List ByteArray) : List UInt8 := wr (itoa a) (if l = [] then [(⟨#[]⟩ : ByteArray)] else l)
theorem text_eq (a : Int) (l : List ByteArray) (h0 : -9223372036854775808 ≤ a) (h1 : a ≤ 9223372036854775807) (hl : l.length ≤ 12) (hs : ∀ s ∈ l, s.size ≤ 600) : reply_Reply_Text.f a l = some (S (txt a l)) := by
  unfold reply_Reply_Text.f strconv_Itoa.f
  rw [if_pos ⟨h0, h1⟩]
  have hi := Lib.itoa_length_le a h0 h1
  show reply_text (S (itoa a)) (if l = [] then [(⟨#[]⟩ : ByteArray)] else l) ⟨#[]⟩ = _
  rw [ptext (itoa a) (by omega)]
  · congr 1
  · split
    · intro s hs'
      rw [List.mem_singleton.1 hs']
      decide
    · exact hs
  · split
    · decide
    · show 0 + _ ≤ _
      omega
set_option maxRecDepth 20000 in
theorem rtext_l0 (c : List UInt8) (hc : c.length ≤ 25) (a : Int) (l : List ByteArray) (hne : l ≠ []) (hl : l.length ≤ 12) (hs : ∀ s ∈ l, s.size ≤ 600) (d : Nat) : ∀ (i : Nat) (out : List UInt8), i + d + 1 = l.length → out.length + 700 * (d + 1) ≤ 100000 →
    Ev (fun k => bulletinref30_Text.l0 k (S c) (S out) (i : Int) a l) (S (out ++ wr c (l.drop i))) := by
  have hpos := List.length_pos_iff.2 hne
  have hw : wrap64 ((l.length : Int) - 1) = ((l.length - 1 : Nat) : Int) := by rw [w64 (by omega) (by omega)]; omega
  have hsc : (S c).size = c.length := by rw [sz, L_S]
  induction d with
  | zero =>
    intro i out hi ho
    have hlt : i < l.length := by omega
    have hx := hs l[i] (List.getElem_mem hlt)
    have hdrop : l.drop i = [l[i]] := by
      rw [List.drop_eq_getElem_cons hlt, List.drop_eq_nil_of_le (by omega)]
    have hso : (S out).size = out.length := by rw [sz, L_S]
    refine up ?_
    simp only [bulletinref30_Text.l0]
    rw [hw]
    have ei : l.length - 1 = i := by omega
    rw [ei, rdOf_nat _ _ _ hlt]
    have z1 : (S out ++ S c).size = out.length + c.length := by rw [sz, L_app, L_S, L_S, List.length_append]
    have z2 : ((S out ++ S c) ++ (⟨#[32]⟩ : ByteArray)).size = out.length + c.length + 1 := by rw [sz, L_app, List.length_append, ← sz, z1]; rfl
    have z3 : (((S out ++ S c) ++ (⟨#[32]⟩ : ByteArray)) ++ l[i]).size = out.length + c.length + 1 + l[i].size := by rw [sz, L_app, List.length_append, ← sz, ← sz, z2]
    refine neg (by omega) (neg (by omega) (pos (by rw [hso, hsc]; omega) (pos (by rw [z1]; omega) (pos (by omega) (pos (by omega) (pos (by rw [z2]; omega) (pos (by rw [z3]; omega) (now' ?_))))))))
    apply L_inj
    rw [hdrop]
    simp only [L_app, L_S, wr, List.append_assoc, if_true, List.append_nil]
    rfl
  | succ d ih =>
    intro i out hi ho
    have hlt : i < l.length := by omega
    have hx := hs l[i] (List.getElem_mem hlt)
    have hso : (S out).size = out.length := by rw [sz, L_S]
    have hdrop : l.drop i = l[i] :: l.drop (i + 1) := List.drop_eq_getElem_cons hlt
    have hnn : l.drop (i + 1) ≠ [] := by
      intro e
      have := congrArg List.length e
      simp at this
      omega
    refine up ?_
    simp only [bulletinref30_Text.l0]
    rw [hw, rdOf_nat _ _ _ hlt, wi i (by omega)]
    have z1 : (S out ++ S c).size = out.length + c.length := by rw [sz, L_app, L_S, L_S, List.length_append]
    have z2 : ((S out ++ S c) ++ (⟨#[45]⟩ : ByteArray)).size = out.length + c.length + 1 := by rw [sz, L_app, List.length_append, ← sz, z1]; rfl
    have z3 : (((S out ++ S c) ++ (⟨#[45]⟩ : ByteArray)) ++ l[i]).size = out.length + c.length + 1 + l[i].size := by rw [sz, L_app, List.length_append, ← sz, ← sz, z2]
    refine pos (by omega) (pos (by rw [hso, hsc]; omega) (pos (by rw [z1]; omega) (pos (by omega) (pos (by omega) (pos (by rw [z2]; omega) (pos (by rw [z3]; omega) ?_))))))
    have e : ((((S out ++ S c) ++ (⟨#[45]⟩ : ByteArray)) ++ l[i]) ++ (⟨#[13, 10]⟩ : ByteArray)) = S (out ++ (c ++ ([45] ++ (L l[i] ++ [13, 10])))) := by
      apply L_inj
      simp only [L_app, L_S, List.append_assoc]
      rfl
    rw [e]
    have hx' := hx
    rw [sz] at hx'
    have hlen : (out ++ (c ++ ([45] ++ (L l[i] ++ [13, 10])))).length = out.length + (c.length + (1 + ((L l[i]).length + 2))) := by
      rw [List.length_append, List.length_append, List.length_append, List.length_append]
      rfl
    have hbound : (out ++ (c ++ ([45] ++ (L l[i] ++ [13, 10])))).length + 700 * (d + 1) ≤ 100000 := by
      rw [hlen]
      clear hlen e z1 z2 z3 ih hw
      omega
    have := ih (i + 1) (out ++ (c ++ ([45] ++ (L l[i] ++ [13, 10])))) (by omega) hbound
    rw [hdrop]
    simp only [wr, if_neg hnn]
    rw [List.append_assoc] at this
    simp only [List.append_assoc] at this ⊢
    exact this
theorem rtext_ev (a : Int) (l : List ByteArray) (h0 : -9223372036854775808 ≤ a) (h1 : a ≤ 9223372036854775807) (hl : l.length ≤ 12) (hs : ∀ s ∈ l, s.size ≤ 600) : Ev (fun k => bulletinref30_Text.f k a l) (S (txt a l)) := by
  unfold bulletinref30_Text.f
  have hi := Lib.itoa_length_le a h0 h1
  refine Ev.bind (Digits.number_ev a h0 h1) ?_
  unfold txt
  by_cases hn : l = []
  · subst hn
    have hsc : (S (itoa a)).size ≤ 21 := by rw [sz, L_S]; exact hi
    refine up ?_
    simp only [bulletinref30_Text.l0]
    refine neg (by rw [List.length_nil, w64 (by decide) (by decide)]; decide) (pos (by rfl) (pos (by omega) (now' ?_)))
    apply L_inj
    show _ = L (S (wr (itoa a) [(⟨#[]⟩ : ByteArray)]))
    simp only [L_app, L_S, wr, List.append_assoc, if_true, List.append_nil]
    rfl
  · rw [if_neg hn]
    have hpos := List.length_pos_iff.2 hn
    have := rtext_l0 (itoa a) (by omega) a l hn hl hs (l.length - 1) 0 [] (by omega) (by simp; omega)
    exact this

/-! ### right -/
def cdI (a : Int) : Bool := decide (200 ≤ a ∧ a ≤ 599) && cd a.toNat
theorem coded_eq (a : Int) : reply_coded.f a = some (cdI a) ∧ bulletinref30_Coded.f a = some (cdI a) := by
  by_cases h : 200 ≤ a ∧ a ≤ 599
  · obtain ⟨n, rfl⟩ : ∃ n : Nat, a = n := ⟨a.toNat, by omega⟩
    have := coded_all n (by omega)
    unfold cdI
    rw [decide_eq_true h, Bool.true_and, Int.toNat_natCast]
    exact this
  · unfold cdI
    rw [decide_eq_false h, Bool.false_and]
    unfold reply_coded.f bulletinref30_Coded.f
    by_cases h2 : a ≥ 200
    · rw [if_pos h2, if_pos h2, if_neg (by omega), if_neg (by omega)]
      exact ⟨rfl, rfl⟩
    · rw [if_neg h2, if_neg h2]
      exact ⟨rfl, rfl⟩
def rt (a : Int) (l : List ByteArray) : Bool := cdI a && decide (l ≠ []) && l.all (fun x => lnd (L x))
theorem idx_ev : ∀ (l : List ByteArray) (i : Nat), ∃ r : Int, Ev (fun k => reply_idx k l i) r ∧ (!(decide (0 ≤ r))) = l.all (fun x => lnd (L x))
  | [], i => ⟨-1, Ev.now _, rfl⟩
  | x :: xs, i => by
    cases hx : lnd (L x) with
    | true =>
      obtain ⟨r, h1, h2⟩ := idx_ev xs (i + 1)
      refine ⟨r, ?_, by rw [List.all_cons, hx, h2]; rfl⟩
      show Ev (fun k => (reply_lined.f k x).bind _) r
      have := lined_ev x
      rw [hx] at this
      exact Ev.bind this (pos (by rfl) h1)
    | false =>
      refine ⟨(i : Int), ?_, by rw [List.all_cons, hx, decide_eq_true (by omega)]; rfl⟩
      show Ev (fun k => (reply_lined.f k x).bind _) (i : Int)
      have := lined_ev x
      rw [hx] at this
      exact Ev.bind this (neg (by simp) (Ev.now _))
theorem right_ev (a : Int) (l : List ByteArray) : Ev (fun k => reply_Reply_Right.f k a l) (rt a l) := by
  unfold reply_Reply_Right.f rt
  refine cbind (coded_eq a).1 ?_
  cases cdI a with
  | false => exact neg (by simp) (Ev.now _)
  | true =>
    refine pos (by rfl) ?_
    by_cases hl : l = []
    · subst hl
      exact neg (by simp) (Ev.now _)
    · refine pos (List.length_pos_iff.2 hl) ?_
      obtain ⟨r, h1, h2⟩ := idx_ev l 0
      refine Ev.bind h1 (now' ?_)
      rw [h2, decide_eq_true hl]
      rfl
theorem rright_l0 (a : Int) (l : List ByteArray) (hl : l.length ≤ 12) (hs : ∀ s ∈ l, s.size ≤ 600) (d : Nat) : ∀ i : Nat, i ≤ l.length → l.length - i = d → Ev (fun k => bulletinref30_Right.l0 k (i : Int) a l) (cdI a && decide (l ≠ []) && (l.drop i).all (fun x => lnd (L x))) := by
  induction d with
  | zero =>
    intro i hi hd
    refine up ?_
    simp only [bulletinref30_Right.l0]
    rw [List.drop_eq_nil_of_le (by omega)]
    refine neg (by omega) (cbind (coded_eq a).2 ?_)
    cases cdI a with
    | false => exact neg (by simp) (Ev.now _)
    | true =>
      refine pos (by rfl) (now' ?_)
      show _ = (true && decide (l ≠ []) && true)
      rw [Bool.true_and, Bool.and_true, Bool.eq_iff_iff, decide_eq_true_eq, decide_eq_true_eq, ← List.length_pos_iff]
      omega
  | succ d ih =>
    intro i hi hd
    have hlt : i < l.length := by omega
    have hx := hs l[i] (List.getElem_mem hlt)
    refine up ?_
    simp only [bulletinref30_Right.l0]
    refine pos (by omega) (pos (by omega) ?_)
    rw [rdOf_nat _ _ _ hlt, wi i (by omega), List.drop_eq_getElem_cons hlt, List.all_cons]
    refine Ev.bind (rlined_ev l[i] (by rw [← sz]; omega)) ?_
    cases lnd (L l[i]) with
    | true =>
      refine pos (by rfl) ?_
      rw [Bool.true_and]
      exact ih (i + 1) (by omega) (by omega)
    | false =>
      refine neg (by simp) (now' ?_)
      simp
theorem rright_ev (a : Int) (l : List ByteArray) (hl : l.length ≤ 12) (hs : ∀ s ∈ l, s.size ≤ 600) : Ev (fun k => bulletinref30_Right.f k a l) (rt a l) := rright_l0 a l hl hs _ 0 (by omega) rfl
end Go.Proofs.YtdjpdbdilcjakaaDoor.Reply
