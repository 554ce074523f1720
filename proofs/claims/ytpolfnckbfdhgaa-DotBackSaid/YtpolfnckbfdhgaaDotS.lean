/- dot: Stuff. -/
import Derived.Test.YtpolfnckbfdhgaaBldS
import Derived.Test.YtpolfnckbfdhgaaShelf
import Derived.Test.YtpolfnckbfdhgaaDotP
import Derived.StillTailTactics
import Derived.Lib.Hide
import Derived.Deep.DeepCutAuto
namespace Go.Proofs.Ytpolfnckbfdhgaa.Dot
open Go.RowKit Go.Proofs.Ytpolfnckbfdhgaa.Mem Go.Proofs.Ytpolfnckbfdhgaa.SpL Go.Proofs.Ytpolfnckbfdhgaa.CutL Go.Proofs.Ytpolfnckbfdhgaa.X Go.Proofs.YtpolfnckbfdhgaaW.PrintWords Go.Proofs.YtpolfnckbfdhgaaW.PrintLast Go.Proofs.YtpolfnckbfdhgaaW.PrintMore Go.Proofs.Ytpolfnckbfdhgaa.Aid
set_option linter.unusedVariables false
set_option linter.unusedSimpArgs false
/-- what the loop keeps: what is written and what is left make all -/
def SR (t acc cur : List UInt8) (ls : List (List UInt8)) : Prop := sp [] cur = (ls, []) ∧ acc ++ ls.flatMap dotl = t ∧ acc.length + 3 * cur.length ≤ 9000
theorem SR.round {t acc cur : List UInt8} {ls : List (List UInt8)} (h : SR t acc cur ls) (hc : cur ≠ []) : SR t (acc ++ dotl (Lib.cut cur [13, 10]).1) (Lib.cut cur [13, 10]).2.1 (sp [] (Lib.cut cur [13, 10]).2.1).1 ∧ (Lib.cut cur [13, 10]).2.1.length < cur.length := by
  obtain ⟨h1, h2, h3⟩ := h
  obtain ⟨e1, e2, e3⟩ := sp_round cur ls h1 hc
  have := dotl_len (Lib.cut cur [13, 10]).1
  refine ⟨⟨Prod.ext rfl e2, ?_, ?_⟩, by omega⟩
  · rw [← h2, e1]; simp
  · rw [List.length_append]; omega
theorem SR.start (l : List UInt8) (hl : l.length ≤ 2000) : SR ((full l).flatMap dotl) [] (norm l) (full l) := by
  have := norm_len l
  exact ⟨sp_norm l, rfl, by simp only [List.length_nil]; omega⟩
theorem SR.done {t acc : List UInt8} {ls : List (List UInt8)} (h : SR t acc [] ls) : acc = t := by
  obtain ⟨h1, h2, h3⟩ := h
  rw [sp] at h1
  obtain rfl : [] = ls := congrArg Prod.fst h1
  rw [← h2]; simp
theorem SR.len {t acc cur : List UInt8} {ls : List (List UInt8)} (h : SR t acc cur ls) : acc.length ≤ 9000 ∧ cur.length ≤ 3000 := by
  have := h.2.2
  omega
set_option maxHeartbeats 2000000 in
set_option maxRecDepth 100000 in
theorem stuff_calls (w : World) (s : ByteArray) (hs : (L s).length ≤ 2000) (hT : Tabs w) :
    Calls Try.prog 7 #[.string s] w fun e w' => e = .returned (.string (S (stuffL (L s)))) ∧ Below w.heap.size w w' := by
  have hsz : s.size ≤ 2000 := by rw [sz]; exact hs
  have hst := SR.start (L s) hs
  go_enter Try.func7, Try.ntmps7
  go_upto_region 1 with (fail)
  go_cut [13] (fun v13 wc => ∃ b : Bool, v13 = .bool b ∧ norm (L s) = (if b = true then L s ++ [13, 10] else L s) ∧ w = wc)
  case first =>
    by_cases h0 : L s = []
    · have e0 : (s.toList == ([] : List UInt8)) = true := by rw [tl, h0]; rfl
      have hn : norm (L s) = (if false = true then L s ++ [13, 10] else L s) := by unfold norm; rw [if_neg (by simp [h0])]; rfl
      go_wp2
      go_meet
      case rel => exact ⟨_, rfl, hn, rfl⟩
    · have e0 : (s.toList == ([] : List UInt8)) = false := by rw [tl]; exact beq_eq_false_iff_ne.2 h0
      go_wp2_with fail
      refine (Try.strings_HasSuffix s ⟨#[13, 10]⟩ _ (by omega)).mono ?_
      rintro e w1 ⟨rfl, rfl⟩
      have hh : Lib.hasSuffix s.data.toList (⟨#[13, 10]⟩ : ByteArray).data.toList = Lib.hasSuffix (L s) [13, 10] := rfl
      simp only [hh]
      cases hf : Lib.hasSuffix (L s) [13, 10] with
      | true =>
        have hn : norm (L s) = (if false = true then L s ++ [13, 10] else L s) := by unfold norm; rw [if_neg (by simp [hf])]; rfl
        go_wp2
        go_meet
        case rel => exact ⟨_, rfl, hn, rfl⟩
      | false =>
        have hn : norm (L s) = (if true = true then L s ++ [13, 10] else L s) := by unfold norm; rw [if_pos ⟨h0, hf⟩]; rfl
        go_wp2
        go_meet
        case rel => exact ⟨_, rfl, hn, rfl⟩
  case rest =>
  obtain ⟨b, rfl, hn, rfl⟩ := hcut
  have HN := Lib.hid hn
  clear hn
  go_upto_if 13 with (fail)
  go_cut [0] (fun v0 wc => ∃ t : ByteArray, v0 = .string t ∧ L t = norm (L s) ∧ Below w.heap.size w wc)
  case first =>
    cases b with
    | false =>
      go_wp2
      go_meet
      case rel => exact ⟨_, rfl, HN.out.symm, Below.refl _ _⟩
    | true =>
      have hq : L (s ++ (⟨#[13, 10]⟩ : ByteArray)) = L s ++ [13, 10] := by simp [L]
      go_wp2
      go_meet
      case rel => exact ⟨_, rfl, hq.trans HN.out.symm, by first | exact Below.refl _ _ | exact pw_below_drewN (Below.refl _ _) _ | exact (Below.refl _ _).drew⟩
  case rest =>
    obtain ⟨t, rfl, ht, hb0⟩ := hcut
    rw [← ht] at hst
    have hT1 : Tabs wc := hT.below hb0
    go_wp2
    have hB1 := Bs.new wc w.heap.size hb0.size
    obtain ⟨b, w2, hb, hw2, hB, hb2⟩ : ∃ b w2, wc.heap.size = b ∧ wc.alloc (.cells #[.pointer none, .slice none 0 0] 50) = w2 ∧ Bs w2 b w.heap.size [] ∧ Below w.heap.size w w2 := ⟨_, _, rfl, rfl, hB1, hb0.alloc hb0.size _⟩
    simp only [hb, hw2]
    clear hb hw2 hB1
    go_loopw [0] (fun v0 wr => ∃ (t : ByteArray) (acc : List UInt8) (ls : List (List UInt8)), v0 = .string t ∧ SR ((full (L s)).flatMap dotl) acc (L t) ls ∧ Bs wr b w.heap.size acc ∧ Below w.heap.size w wr) (fun v0 _ => (match v0 with | .string t => t.size | _ => 0))
    case atStart => exact ⟨t, [], _, rfl, hst, hB, hb2⟩
    case round =>
      obtain ⟨t, acc, ls, rfl, hsr, hB, hb⟩ := hrel
      obtain ⟨m, hm⟩ := (hT.below hb).max
      obtain ⟨hlen1, hlen2⟩ := hsr.len
      have htz : t.size ≤ 3000 := by rw [sz]; exact hlen2
      have hBw := hb.size
      by_cases h0 : L t = []
      · have e0 : (t.toList == ([] : List UInt8)) = true := by rw [tl, h0]; rfl
        have hacc : acc = (full (L s)).flatMap dotl := (h0 ▸ hsr).done
        go_wp2_with fail
        refine (bs_write hB hBw (⟨#[46, 13, 10]⟩ : ByteArray) (by decide) (by have : (⟨#[46, 13, 10]⟩ : ByteArray).size = 3 := rfl; omega)).mono ?_
        rintro e w3 ⟨rfl, hB3, hb3⟩
        have hb3' := hb.trans hb3
        go_wp2_with fail
        refine (bs_string hB3 hb3'.size).mono ?_
        rintro e w4 ⟨rfl, hB4, hb4⟩
        go_wp2
        go_ret
        exact ⟨rfl, hb3'.trans hb4⟩
      · have e0 : (t.toList == ([] : List UInt8)) = false := by rw [tl]; exact beq_eq_false_iff_ne.2 h0
        obtain ⟨hs2, hlt⟩ := hsr.round h0
        go_wp2_with fail
        refine (Try.strings_Cut t ⟨#[13, 10]⟩ m _ (by omega) hm).mono ?_
        rintro e w3 ⟨rfl, n3, rfl⟩
        have hcc : Lib.cut t.data.toList (⟨#[13, 10]⟩ : ByteArray).data.toList = Lib.cut (L t) [13, 10] := rfl
        simp only [hcc]
        obtain ⟨c, hc⟩ : ∃ c, Lib.cut (L t) [13, 10] = c := ⟨_, rfl⟩
        simp only [hc] at hs2 hlt ⊢
        clear hc hcc
        obtain ⟨c1, c2, c3⟩ := c
        simp only at hs2 hlt ⊢
        obtain ⟨ln, hln⟩ : ∃ x : ByteArray, (⟨c1.toArray⟩ : ByteArray) = x := ⟨_, rfl⟩
        obtain ⟨rs, hrs⟩ : ∃ x : ByteArray, (⟨c2.toArray⟩ : ByteArray) = x := ⟨_, rfl⟩
        simp only [hln, hrs]
        have HL : Hid (c1 = L ln) := by show _ = _; rw [← hln, L_lit]
        have HR : Hid (c2 = L rs) := by show _ = _; rw [← hrs, L_lit]
        clear hln hrs
        have hB' := hB.drewN n3
        have hb' : Below w.heap.size w (wr.drewN n3) := pw_below_drewN hb _
        have hBw' := hb'.size
        go_wp2_with fail
        refine (Try.strings_HasPrefix ln ⟨#[46]⟩ _).mono ?_
        rintro e w4 ⟨rfl, rfl⟩
        have hln : ln.size ≤ 9000 ∧ ((full (L s)).flatMap dotl).length = ((full (L s)).flatMap dotl).length := by
          have := hs2.len.1
          have h3 : (dotl c1).length ≥ c1.length := by unfold dotl; simp only [List.length_append]; omega
          rw [List.length_append] at this
          have h4 := congrArg List.length HL.out
          rw [sz]; omega
        have hln := hln.1
        have hcr : (ln ++ (⟨#[13, 10]⟩ : ByteArray)).size = ln.size + 2 := by rw [ByteArray.size_append]; rfl
        have hh : Lib.hasPrefix ln.data.toList (⟨#[46]⟩ : ByteArray).data.toList = Lib.hasPrefix (L ln) [46] := rfl
        simp only [hh]
        clear hh
        have HS := Lib.hid hs2
        have HC := Lib.hid hcr
        have HT := Lib.hid hlt
        clear hs2 hcr hlt
        cases hf : Lib.hasPrefix (L ln) [46] with
        | true =>
          have HF := Lib.hid hf
          clear hf
          go_wp2_with fail
          refine (bs_write hB' hBw' (⟨#[46]⟩ : ByteArray) (by decide) (by have : (⟨#[46]⟩ : ByteArray).size = 1 := rfl; omega)).mono ?_
          rintro e w5 ⟨rfl, hB5, hb5⟩
          have hb5' := hb'.trans hb5
          go_wp2_with fail
          have hB5d := hB5
          have hb5d := hb5'
          refine (bs_write hB5d hb5d.size (ln ++ (⟨#[13, 10]⟩ : ByteArray)) (by rw [HC.out]; omega) (by rw [HC.out]; simp only [List.length_append, List.length_cons, List.length_nil]; omega)).mono ?_
          rintro e w6 ⟨rfl, hB6, hb6⟩
          go_wp2
          go_roundw
          case rel =>
            have hd : dotl c1 = [46] ++ (L ln ++ [13, 10]) := by unfold dotl; rw [HL.out, HF.out]; rfl
            have h := HS.out
            rw [hd, ← List.append_assoc, HR.out] at h
            have he : acc ++ (⟨#[46]⟩ : ByteArray).data.toList ++ (ln ++ (⟨#[13, 10]⟩ : ByteArray)).data.toList = acc ++ [46] ++ (L ln ++ [13, 10]) := by simp [L]
            rw [he] at hB6
            exact ⟨_, _, _, rfl, h, hB6, hb5'.trans hb6⟩
          case measure =>
            have h := HT.out
            rw [HR.out, ← sz, ← sz] at h
            simpa using h
        | false =>
          have HF := Lib.hid hf
          clear hf
          go_wp2_with fail
          refine (bs_write hB' hBw' (ln ++ (⟨#[13, 10]⟩ : ByteArray)) (by rw [HC.out]; omega) (by rw [HC.out]; omega)).mono ?_
          rintro e w6 ⟨rfl, hB6, hb6⟩
          go_wp2
          go_roundw
          case rel =>
            have hd : dotl c1 = L ln ++ [13, 10] := by unfold dotl; rw [HL.out, HF.out]; rfl
            have h := HS.out
            rw [hd, HR.out] at h
            have he : acc ++ (ln ++ (⟨#[13, 10]⟩ : ByteArray)).data.toList = acc ++ (L ln ++ [13, 10]) := by simp [L]
            rw [he] at hB6
            exact ⟨_, _, _, rfl, h, hB6, hb'.trans hb6⟩
          case measure =>
            have h := HT.out
            rw [HR.out, ← sz, ← sz] at h
            simpa using h
end Go.Proofs.Ytpolfnckbfdhgaa.Dot
