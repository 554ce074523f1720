/- crlf: CrlfBack: lines without CR and LF are taken as they were. -/
import Derived.Test.YtjoeilblfcaipaaCrlfE
import Derived.Test.YtjoeilblfcaipaaBookLight
import Derived.Deep.QuietTactic
import Derived.BigQuiet
namespace Go.Proofs.Ytjoeilblfcaipaa.Crlf
open Go.RowKit Go.Proofs.Ytjoeilblfcaipaa.Mem Go.Proofs.Ytjoeilblfcaipaa.X Go.Proofs.YtjoeilblfcaipaaW.PrintWords Go.Proofs.YtjoeilblfcaipaaW.PrintLast Go.Proofs.YtjoeilblfcaipaaW.PrintMore Go.Proofs.Ytjoeilblfcaipaa.Aid
set_option linter.unusedVariables false
set_option linter.unusedSimpArgs false
theorem bad_cons (c : UInt8) (l : List UInt8) : bad (c :: l) = ((c == 13 || c == 10) || bad l) := rfl
theorem fds_clean (ws : List (List UInt8)) (cur : List UInt8) : ∀ x : List UInt8, bad x = false → fds (ws, cur, false) x = (ws, cur ++ x, false)
  | [], _ => by simp [fds]
  | c :: x, h => by
    rw [bad_cons, Bool.or_eq_false_iff, Bool.or_eq_false_iff] at h
    have e : fds (ws, cur, false) (c :: x) = fds (fd (ws, cur, false) c) x := rfl
    have e2 : fd (ws, cur, false) c = (ws, cur ++ [c], false) := by simp [fd, h.1.1]
    rw [e, e2, fds_clean ws _ x h.2]
    simp
theorem fds_line (ws : List (List UInt8)) (x : List UInt8) (h : bad x = false) : fds (ws, [], false) (x ++ [13, 10]) = (ws ++ [x], [], false) := by
  rw [fds_app, fds_clean ws [] x h]
  simp [fds, fd]
theorem judge_clean (x : List UInt8) (h : bad x = false) (hl : x.length ≤ 998) : judge x 998 = (1, x) := by
  unfold judge
  rw [if_neg (by omega), h]
  rfl
theorem bad_of (s : List UInt8) (h : ∀ k (hk : k < s.length), s[k] ≠ 13 ∧ s[k] ≠ 10) : bad s = false := by
  unfold bad
  rw [List.any_eq_false]
  intro c hc
  obtain ⟨k, hk, rfl⟩ := List.getElem_of_mem hc
  have := h k hk
  simp [this.1, this.2]
set_option maxHeartbeats 4000000 in
set_option maxRecDepth 100000 in
theorem back_calls (w : World) (A : Option Addr) (c : Nat) (l : List ByteArray) (hr : Kd.C Kd.string w A l.length l) (hc : l.length ≤ c) :
    Calls Try.prog 6 #[.slice A l.length c] w fun e w' => e = .returned (.bool true) ∧ Below w.heap.size w w' := by
  go_enter Try.func6, Try.ntmps6
  go_wp2_with fail
  refine (works_calls _).mono ?_
  rintro e w1 ⟨rfl, hb1⟩
  go_wp2_with fail
  refine (new_calls _).mono ?_
  rintro e w2 ⟨rfl, rfl⟩
  have hM0 := My.new w1
  have hM : ∃ b w2, w1.heap.size = b ∧ w1.alloc (.cells #[.slice none 0 0, .slice none 0 0, .int .i64 0, .bool false, .bool false] 49) = w2 ∧ Rd w2 b (mine w.heap.size w2) ([], [], false) ∧ Below w.heap.size w w2 :=
    ⟨_, _, rfl, rfl, hM0.1.mono (fun k hk => ⟨by have := hb1.size; have := hk.1; omega, hk.2⟩) mine_lt, hb1.trans (hM0.2.mono hb1.size)⟩
  obtain ⟨b, w2, hb, hw2, hM⟩ := hM
  have hM : My w w2 b ([], [], false) := hM
  simp only [hb, hw2]
  clear hb hw2 hM0
  have hC2 := Kd.C_below hr (hM.2)
  obtain ⟨r, hlight, hcall⟩ := Book.light_calls w2 A c l hC2 hc 30 998 (by omega)
  go_wp2_with fail
  refine hcall.mono ?_
  rintro e w3 ⟨rfl, n, rfl⟩
  have hM := hM.below (w' := w2.drewN n) (pw_below_drewN (Below.refl _ _) n)
  clear hcall hC2
  cases r with
  | false =>
    go_wp2
    go_ret
    exact ⟨rfl, hM.2⟩
  | true =>
    obtain ⟨hlen, hall⟩ := hlight rfl
    clear hlight
    go_wp2
    have hC := Kd.C_below hr hM.2
    obtain ⟨w3, hw3⟩ : ∃ x, w2.drewN n = x := ⟨_, rfl⟩
    simp only [hw3] at hM hC ⊢
    clear hw3
    have hl63 : l.length ≤ 1000000 := by omega
    go_loop [24, 4] (fun i _ => ∃ k : Nat, k ≤ l.length ∧ i = .int .i64 k ∧ ∀ j (hj : j < l.length), j < k → bad (L l[j]) = false) (fun i _ => l.length - (intOf i).toNat)
    case atStart => exact ⟨0, Nat.zero_le _, rfl, fun j hj h => by omega⟩
    case round =>
      obtain ⟨k, hk, rfl, hbad⟩ := hrel
      have HB : Hid (∀ j (hj : j < l.length), j < k → bad (L l[j]) = false) := hbad
      clear hbad
      by_cases hlt : k < l.length
      · obtain ⟨ad, hA, hx⟩ := str_at hC hlt
        have hsz : l[k].size ≤ 998 := hall _ (List.getElem_mem hlt)
        obtain ⟨s, hs⟩ : ∃ s, l[k] = s := ⟨_, rfl⟩
        rw [hs] at hx hsz
        subst hA
        have HS : Hid (l[k] = s) := hs
        clear hs
        go_wp2
        go_loop [32] (fun i => ∃ q : Nat, q ≤ s.size ∧ i = .int .i64 q ∧ ∀ j (hj : j < s.size), j < q → ¬ ((s[j].toNat : Int) = 13) ∧ ¬ ((s[j].toNat : Int) = 10)) (fun i => s.size - (intOf i).toNat)
        case atStart => exact ⟨0, Nat.zero_le _, rfl, fun j hj h => by omega⟩
        case round =>
          obtain ⟨q, hq, rfl, hno⟩ := hrel
          have HN : Hid (∀ j (hj : j < s.size), j < q → ¬ ((s[j].toNat : Int) = 13) ∧ ¬ ((s[j].toNat : Int) = 10)) := hno
          clear hno
          by_cases hlq : q < s.size
          · by_cases h13 : ((s[q].toNat : Int) = 13)
            · go_wp2
              go_ret
              exact ⟨rfl, hM.2⟩
            · by_cases h10 : ((s[q].toNat : Int) = 10)
              · go_wp2
                go_ret
                exact ⟨rfl, hM.2⟩
              · have hx13 : ((s[q].toNat : Int) == 13) = false := beq_eq_false_iff_ne.2 h13
                have hx10 : ((s[q].toNat : Int) == 10) = false := beq_eq_false_iff_ne.2 h10
                go_wp2
                refine ⟨⟨q + 1, by omega, by go_num, fun j hj h => ?_⟩, by simp [intOf]; omega⟩
                by_cases e : j = q
                · subst e; exact ⟨h13, h10⟩
                · exact HN.out j hj (by omega)
          · have hb : bad (L s) = false := bad_of _ fun j hj => by
              have hj' : j < s.size := by rw [sz]; exact hj
              have h := HN.out j hj' (by omega)
              exact ⟨fun e => h.1 (by have e : s[j] = 13 := e; rw [e]; rfl), fun e => h.2 (by have e : s[j] = 10 := e; rw [e]; rfl)⟩
            go_wp2
            go_round
            case rel => exact ⟨k + 1, by omega, by go_num, fun j hj h => by
              by_cases e : j = k
              · subst e; rw [HS.out]; exact hb
              · exact HB.out j hj (by omega)⟩
            case measure => simp [intOf]; omega
      · have hclean : ∀ j (hj : j < l.length), bad (L l[j]) = false := fun j hj => HB.out j hj (by omega)
        have HC : Hid (∀ j (hj : j < l.length), bad (L l[j]) = false) := hclean
        clear hclean HB
        go_wp2
        clear hk hlt
        go_loopw [55] (fun i wr => ∃ k : Nat, k ≤ l.length ∧ i = .int .i64 k ∧ My w wr b ((l.take k).map L, [], false)) (fun i _ => l.length - (intOf i).toNat)
        case atStart => exact ⟨0, Nat.zero_le _, rfl, hM⟩
        case round =>
          obtain ⟨k, hk, rfl, hm⟩ := hrel
          by_cases hlt : k < l.length
          · obtain ⟨ad, hA, hx⟩ := str_at (Kd.C_below hr hm.2) hlt
            obtain ⟨s, hs⟩ : ∃ s, l[k] = s := ⟨_, rfl⟩
            rw [hs] at hx
            subst hA
            have HT : Hid ((l.take (k + 1)).map L = (l.take k).map L ++ [L s]) := by
              show _ = _
              rw [List.take_succ_eq_append_getElem hlt, List.map_append, hs]; rfl
            have hb : bad (L s) = false := hs ▸ HC.out k hlt
            have hz : s.size ≤ 998 := hs ▸ hall _ (List.getElem_mem hlt)
            have hss : (s ++ (⟨#[13, 10]⟩ : ByteArray)).size = s.size + 2 := by rw [ByteArray.size_append]; rfl
            have hB1 : ((l.take k).map L).length + (s ++ (⟨#[13, 10]⟩ : ByteArray)).size ≤ 1000000 := by rw [List.length_map, List.length_take]; omega
            have hB2 : held ((l.take k).map L, [], false) + (s ++ (⟨#[13, 10]⟩ : ByteArray)).size ≤ 999990 := by show 0 + _ ≤ _; omega
            clear hs hss
            go_wp2_with fail
            refine (Feed_calls _ b _ _ _ hm.1 hB1 hB2).mono ?_
            rintro e w4 ⟨rfl, hp⟩
            have hm' : My w w4 b ((l.take (k + 1)).map L, [], false) := by
              have := hm.step hp
              rw [show (s ++ (⟨#[13, 10]⟩ : ByteArray)).data.toList = L s ++ [13, 10] by simp [L], fds_line _ _ hb, ← HT.out] at this
              exact this
            clear hp hm
            go_wp2
            go_roundw
            case rel => exact ⟨k + 1, by omega, by go_num, hm'⟩
            case measure => simp [intOf]; omega
          · have hm2 : My w wr b (l.map L, [], false) := by rw [List.take_of_length_le (by omega)] at hm; exact hm
            clear hm
            go_wp2
            clear hlt hk
            go_loopw [68] (fun i wq => ∃ k : Nat, k ≤ l.length ∧ i = .int .i64 k ∧ My w wq b ((l.drop k).map L, [], false)) (fun i _ => l.length - (intOf i).toNat)
            case atStart => exact ⟨0, Nat.zero_le _, rfl, hm2⟩
            case round =>
              clear hm2
              obtain ⟨k, hk, rfl, hm⟩ := hrel
              by_cases hlt : k < l.length
              · obtain ⟨ad, hA, hx⟩ := str_at hC hlt
                obtain ⟨s, hs⟩ : ∃ s, l[k] = s := ⟨_, rfl⟩
                rw [hs] at hx
                subst hA
                have hm2 : My w wr b (L s :: (l.drop (k + 1)).map L, [], false) := by
                  rw [List.drop_eq_getElem_cons hlt, List.map_cons, hs] at hm; exact hm
                have hb : bad (L s) = false := hs ▸ HC.out k hlt
                have hz : s.size ≤ 998 := hs ▸ hall _ (List.getElem_mem hlt)
                have hj : judge (L s) 998 = (1, L s) := judge_clean _ hb (by rw [← sz]; exact hz)
                have hq : (⟨(L s).toArray⟩ : ByteArray) = s := S_L s
                have HS : Hid (l[k] = s) := hs
                clear hs hm hx
                go_wp2_with fail
                refine (take_some _ b _ (L s) _ [] false 998 hm2.1 (by rw [List.length_map, List.length_drop]; omega)).mono ?_
                rintro e w4 ⟨rfl, hp⟩
                have hm' : My w w4 b ((l.drop (k + 1)).map L, [], false) := hm2.step hp
                simp only [hj, lineV, hq]
                clear hp hm2 hj hq
                have hm3 := hm'.below ((Below.refl _ w4).alloc (Nat.le_refl _) (.cells #[.int .i64 1, .string s] 33))
                have hx : (w4.alloc (.cells #[.int .i64 1, .string s] 33)).cell? (ad.add k) = some (.string s) := by
                  obtain ⟨ad', hA', hx⟩ := str_at (Kd.C_below hr hm3.2) hlt
                  cases hA'
                  rw [hx, HS.out]
                have hy0 : (w4.alloc (.cells #[.int .i64 1, .string s] 33)).cell? ⟨w4.heap.size, 0, none⟩ = some (.int .i64 1) := ((Blk.new w4 _ _).cell 0).trans rfl
                have hy1 : (w4.alloc (.cells #[.int .i64 1, .string s] 33)).cell? ⟨w4.heap.size, 1, none⟩ = some (.string s) := ((Blk.new w4 _ _).cell 1).trans rfl
                have hbb : (s.toList == s.toList) = true := beq_iff_eq.mpr rfl
                go_wp2
                obtain ⟨w5, hw5⟩ : ∃ x, w4.alloc (.cells #[.int .i64 1, .string s] 33) = x := ⟨_, rfl⟩
                simp only [hw5] at hm3 hx hy0 hy1 ⊢
                clear hw5
                go_quiet (fail)
                have hm4 := hm3.below (w' := w5.drewN nq) (pw_below_drewN (Below.refl _ _) nq)
                go_wp2
                go_roundw
                case rel => exact ⟨k + 1, by omega, by go_num, hm4⟩
                case measure => simp [intOf]; omega
              · have hm2 : My w wr b ([], [], false) := by rw [List.drop_eq_nil_of_le (by omega)] at hm; exact hm
                clear hm
                go_wp2_with fail
                refine (whole_calls _ b _ _ hm2.1).mono ?_
                rintro e w5 ⟨rfl, rfl⟩
                go_wp2_with fail
                refine (held_calls _ b _ _ hm2.1 (by decide)).mono ?_
                rintro e w5 ⟨rfl, rfl⟩
                have hh : held ([], [], false) = 0 := rfl
                simp only [hh]
                go_wp2
                go_ret
                exact ⟨rfl, hm2.2⟩
end Go.Proofs.Ytjoeilblfcaipaa.Crlf
