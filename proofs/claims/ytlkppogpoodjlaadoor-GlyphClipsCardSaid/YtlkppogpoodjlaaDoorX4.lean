-- Written by a program (print.py's text, with contracts of this session's own put in). Not trusted: Lean checks it.
import Derived.Test.YtlkppogpoodjlaaDoorX0
import Derived.Test.YtlkppogpoodjlaaDoorX1
import Derived.Test.YtlkppogpoodjlaaDoorX3
namespace Go.Proofs.YtlkppogpoodjlaaDoor.X
open Go.RowKit Go.Proofs.YtlkppogpoodjlaaDoorW.PrintWords Go.Proofs.YtlkppogpoodjlaaDoorW.PrintLast Go.Proofs.YtlkppogpoodjlaaDoorW.PrintMore
attribute [local go_sem] max2_int min2_int max_two min_two max_three min_three max_four min_four   -- for this text's walks alone
set_option linter.unusedVariables false
set_option linter.unusedSimpArgs false

/-! ### glyph_hex: function 30, a contract written by hand -/
def glyph_dig (n : Int) : Int := bt (⟨#[48, 49, 50, 51, 52, 53, 54, 55, 56, 57, 97, 98, 99, 100, 101, 102]⟩ : ByteArray) n
def glyph_hex.l0 : Nat → ByteArray → Int → Option ByteArray
  | 0, _, _ => none
  | k + 1, s, n => if 0 ≤ n ∧ n ≤ 2147483647 ∧ (Utf8.encode (glyph_dig (n % 16))).size + s.size ≤ 9223372036854775807 then (if n / 16 = 0 then some (Utf8.encode (glyph_dig (n % 16)) ++ s) else glyph_hex.l0 k (Utf8.encode (glyph_dig (n % 16)) ++ s) (n / 16)) else none
def glyph_hex.f (k : Nat) (a0 : Int) : Option ByteArray := glyph_hex.l0 k ⟨#[]⟩ a0
theorem glyph_hex.mono_l : ∀ k, (∀ y0 y1, LeO (glyph_hex.l0 k y0 y1) (glyph_hex.l0 (k + 1) y0 y1))
  | 0 => fun _ _ r h => by simp [glyph_hex.l0] at h
  | k + 1 => fun y0 y1 => by
    have ih := glyph_hex.mono_l k
    unfold glyph_hex.l0
    exact LeO.ite (LeO.ite (LeO.refl _) (ih _ _)) (LeO.refl _)
theorem glyph_hex.mono : ∀ a0 k, LeO (glyph_hex.f k a0) (glyph_hex.f (k + 1) a0) := fun a0 k => glyph_hex.mono_l k _ a0
set_option maxHeartbeats 4000000 in
set_option maxRecDepth 100000 in
theorem glyph_hex.calls (k : Nat) (a0 : Int) (r : ByteArray) (w : World) (h : glyph_hex.f k a0 = some r) : Calls Tryd.prog 30 #[.int .i32 a0] w fun e w' => e = .returned (.string r) ∧ Below w.heap.size w w' := by
  have H := Aside0.mk (show glyph_hex.l0 k ⟨#[]⟩ a0 = some r from h)
  clear h
  go_enter Tryd.func30, Tryd.ntmps30
  go_wp2
  go_loopg [0, 3] k (fun kq v0 v3 wr => ∃ (n : Int) (s : ByteArray), v0 = .int .i32 n ∧ v3 = .string s ∧ Aside0 (glyph_hex.l0 kq s n = some r) ∧ Below w.heap.size w wr)
  case atStart => exact ⟨a0, ⟨#[]⟩, rfl, rfl, H, Below.refl _ w⟩
  case round =>
    clear H
    obtain ⟨n, s, rfl, rfl, HA, hB⟩ := hrel
    cases gk with
    | zero => exact absurd HA.out (by simp [glyph_hex.l0])
    | succ k1 =>
      have hg := HA.out
      clear HA
      simp only [glyph_hex.l0] at hg
      by_cases hc : 0 ≤ n ∧ n ≤ 2147483647 ∧ (Utf8.encode (glyph_dig (n % 16))).size + s.size ≤ 9223372036854775807
      · rw [if_pos hc] at hg
        obtain ⟨hn0, hn1, hs⟩ := hc
        have e1 : Int.tmod n 16 = n % 16 := Int.tmod_eq_emod_of_nonneg hn0
        have e2 : Int.tdiv n 16 = n / 16 := Int.tdiv_eq_ediv_of_nonneg hn0
        obtain ⟨m, hm⟩ : ∃ m, n % 16 = m := ⟨_, rfl⟩
        obtain ⟨q, hq⟩ : ∃ q, n / 16 = q := ⟨_, rfl⟩
        have hm0 : 0 ≤ m := by omega
        have hm1 : m < 16 := by omega
        have hq0 : 0 ≤ q := by omega
        have hq1 : q ≤ 2147483647 := by omega
        rw [hm] at e1 hg hs
        have HS := Aside0.mk hs
        clear hs
        rw [hq] at e2 hg
        clear hm hq
        have x0 := bt_at (⟨#[48, 49, 50, 51, 52, 53, 54, 55, 56, 57, 97, 98, 99, 100, 101, 102]⟩ : ByteArray) m
        obtain ⟨c, hc⟩ : ∃ c, bt (⟨#[48, 49, 50, 51, 52, 53, 54, 55, 56, 57, 97, 98, 99, 100, 101, 102]⟩ : ByteArray) m = c := ⟨_, rfl⟩
        rw [hc] at x0
        have hr := bt_range (⟨#[48, 49, 50, 51, 52, 53, 54, 55, 56, 57, 97, 98, 99, 100, 101, 102]⟩ : ByteArray) m
        rw [hc] at hr
        have HC := Aside0.mk (show glyph_dig m = c from hc)
        clear hc
        have HG := Aside0.mk hg
        clear hg
        have hs' : (Utf8.encode c).size + s.size ≤ 9223372036854775807 := by rw [← HC.out]; exact HS.out
        by_cases hz : q = 0
        · have hz1 : (q == 0) = true := beq_iff_eq.mpr hz
          have HF : some (Utf8.encode (glyph_dig m) ++ s) = some r := by have h2 := HG.out; rw [if_pos hz] at h2; exact h2
          rw [HC.out] at HF
          obtain rfl := Option.some.inj HF
          clear HF HG
          go_wp2
          go_ret
          exact ⟨rfl, hB⟩
        · have hz1 : (q == 0) = false := beq_eq_false_iff_ne.mpr hz
          have HF : glyph_hex.l0 k1 (Utf8.encode (glyph_dig m) ++ s) q = some r := by have h2 := HG.out; rw [if_neg hz] at h2; exact h2
          rw [HC.out] at HF
          have HG2 := Aside0.mk HF
          clear HF HG
          go_wp2
          go_roundg k1
          case measure => omega
          case rel => exact ⟨_, _, rfl, rfl, HG2, hB⟩
      · rw [if_neg hc] at hg
        exact absurd hg (by simp)

/-! ### glyph_Spell: function 13, a contract written by hand -/
-- IMPORT Derived.Lib.OthersKept
def glyph_Spell.l0 : Nat → ByteArray → List UInt8 → Nat → Option ByteArray
  | 0, _, _, _ => none
  | k + 1, s, acc, p => if p < s.size then (if acc.length + 100 ≤ 140737488355328 then (glyph_bad.f s (p : Int) ((Utf8.decode s p).1 : Int)).bind fun b => if b = true then glyph_Spell.l0 k s (acc ++ [123, 98, 97, 100, 125]) (p + (Utf8.decode s p).2) else (glyph_plain.f ((Utf8.decode s p).1 : Int)).bind fun q => if q = true ∧ ((Utf8.decode s p).1 : Int) ≠ 123 then glyph_Spell.l0 k s (acc ++ Lib.encodeRune ((Utf8.decode s p).1 : Int)) (p + (Utf8.decode s p).2) else (glyph_hex.f k ((Utf8.decode s p).1 : Int)).bind fun t => if t.size ≤ 90 then glyph_Spell.l0 k s (acc ++ ((⟨#[123]⟩ : ByteArray) ++ t ++ (⟨#[125]⟩ : ByteArray)).data.toList) (p + (Utf8.decode s p).2) else none else none) else some ⟨acc.toArray⟩
def glyph_Spell.f (k : Nat) (a0 : ByteArray) : Option ByteArray := glyph_Spell.l0 k a0 [] 0
theorem glyph_Spell.mono_l : ∀ k, (∀ y0 y1 y2, LeO (glyph_Spell.l0 k y0 y1 y2) (glyph_Spell.l0 (k + 1) y0 y1 y2))
  | 0 => fun _ _ _ r h => by simp [glyph_Spell.l0] at h
  | k + 1 => fun y0 y1 y2 => by
    have ih := glyph_Spell.mono_l k
    unfold glyph_Spell.l0
    exact LeO.ite (LeO.ite (LeO.bind (LeO.refl _) (fun _ => LeO.ite (ih _ _ _) (LeO.bind (LeO.refl _) (fun _ => LeO.ite (ih _ _ _) (LeO.bind (glyph_hex.mono _ _) (fun _ => LeO.ite (ih _ _ _) (LeO.refl _))))))) (LeO.refl _)) (LeO.refl _)
theorem glyph_Spell.mono : ∀ a0 k, LeO (glyph_Spell.f k a0) (glyph_Spell.f (k + 1) a0) := fun a0 k => glyph_Spell.mono_l k a0 _ _
theorem glyph_cells_str (acc : List UInt8) (s : ByteArray) : Lib.byteCells (acc ++ s.data.toList) = Lib.byteCells acc ++ Lib.strCells s := by
  simp [Lib.byteCells, Lib.strCells]
set_option maxHeartbeats 8000000 in
set_option maxRecDepth 100000 in
theorem glyph_Spell.calls (k : Nat) (a0 : ByteArray) (r : ByteArray) (w : World) (hT0 : Aside0 (Tabs w)) (h : glyph_Spell.f k a0 = some r) : Calls Tryd.prog 13 #[.string a0] w fun e w' => e = .returned (.string r) ∧ Below w.heap.size w w' := by
  have H := Aside0.mk (show glyph_Spell.l0 k a0 [] 0 = some r from h)
  clear h
  go_enter Tryd.func13, Tryd.ntmps13
  go_wp2
  go_loopg [] k (fun kq wr => ∃ (p : Nat) (acc : List UInt8), Aside0 (glyph_Spell.l0 kq a0 acc p = some r) ∧ Lib.IsBuilderF 37 5 w.heap.size w.heap.size (Lib.byteCells acc) wr ∧ wr.heap[w.heap.size + 1]? = some (.stringIter a0 p) ∧ Below w.heap.size w wr)
  case atStart =>
    refine ⟨0, [], H, (Lib.IsBuilderF.of (Lib.fresh_isBuilder _ _ w)).alloc _, ?_, ((Below.refl _ w).alloc (Nat.le_refl _) _).alloc (by simp) _⟩
    have := World.iter_heap (w.alloc (.cells #[.pointer none, .slice none 0 0] 37)) a0 0
    simpa using this
  case round =>
    clear H
    obtain ⟨p, acc, HA, hI, hit, hB⟩ := hrel
    cases gk with
    | zero => exact absurd HA.out (by simp [glyph_Spell.l0])
    | succ k1 =>
      have hg := HA.out
      clear HA
      simp only [glyph_Spell.l0] at hg
      have hszl := hB.size
      by_cases hp : p < a0.size
      · rw [if_pos hp] at hg
        by_cases hl : acc.length + 100 ≤ 140737488355328
        · rw [if_pos hl] at hg
          obtain ⟨b, hb, hg⟩ := Option.bind_eq_some_iff.mp hg
          have HBD := Aside0.mk hb
          have HG := Aside0.mk hg
          clear hb hg
          have HL := Aside0.mk (show (Lib.byteCells acc).length + 100 ≤ 140737488355328 by rw [Lib.byteCells_length]; exact hl)
          clear hl
          have hnx : ∀ ty, (Instr.next (.pointer (some ⟨w.heap.size + 1, 0, none⟩)) true ty).run Tryd.prog wr = _ := fun ty => Lib.run_next_any_at wr (w.heap.size + 1) a0 p ty hit hp
          have HD := Aside0.mk (decode_le a0 p)
          have hI2 := hI.iterAt hit (p + (Utf8.decode a0 p).2)
          have hit2 := Lib.iterAt_heap wr (w.heap.size + 1) a0 p (p + (Utf8.decode a0 p).2) hit
          have hB2 := Lib.below_iterAt hB (k := w.heap.size + 1) (by omega) a0 (p + (Utf8.decode a0 p).2)
          have HT1 := Tabs.a hT0 hB2
          go_wp2_with fail
          refine (glyph_bad.calls (hT0 := HT1) _ _ _ b _ HBD.out).mono ?_
          rintro e w1 ⟨rfl, hb1⟩
          have hit3 := (hb1.block _ (blk_lt hit2)).trans hit2
          have hB3 := hB2.trans (hb1.mono hB2.size)
          have hI3 := bldF_below hI2 hb1
          have hsz3 := hB3.size
          cases b with
          | true =>
            have HG2 : glyph_Spell.l0 k1 a0 (acc ++ [123, 98, 97, 100, 125]) (p + (Utf8.decode a0 p).2) = some r := HG.out
            have HG3 := Aside0.mk HG2
            clear HG HG2
            go_wp2_with fail
            refine (bld_WriteString w.heap.size w.heap.size _ (⟨#[123, 98, 97, 100, 125]⟩ : ByteArray) _ hI3 (Nat.le_trans (Nat.add_le_add_left (by decide : (⟨#[123, 98, 97, 100, 125]⟩ : ByteArray).size ≤ 100) _) HL.out) hsz3).mono ?_
            rintro e w2 ⟨rfl, h2, hb2, hk2⟩
            go_wp2
            go_roundg k1
            case measure => omega
            case rel => exact ⟨_, _, HG3, by rw [show ([123, 98, 97, 100, 125] : List UInt8) = (⟨#[123, 98, 97, 100, 125]⟩ : ByteArray).data.toList from rfl, glyph_cells_str]; exact Or.inr h2, hk2.iter hit3 (by omega), hB3.trans hb2⟩
          | false =>
            have HG2 : (glyph_plain.f ((Utf8.decode a0 p).1 : Int)).bind (fun q => if q = true ∧ ((Utf8.decode a0 p).1 : Int) ≠ 123 then glyph_Spell.l0 k1 a0 (acc ++ Lib.encodeRune ((Utf8.decode a0 p).1 : Int)) (p + (Utf8.decode a0 p).2) else (glyph_hex.f k1 ((Utf8.decode a0 p).1 : Int)).bind fun t => if t.size ≤ 90 then glyph_Spell.l0 k1 a0 (acc ++ ((⟨#[123]⟩ : ByteArray) ++ t ++ (⟨#[125]⟩ : ByteArray)).data.toList) (p + (Utf8.decode a0 p).2) else none) = some r := HG.out
            obtain ⟨q, hq, hg⟩ := Option.bind_eq_some_iff.mp HG2
            have HQ := Aside0.mk hq
            clear HG HG2 hq
            obtain ⟨c, hc⟩ : ∃ c, ((Utf8.decode a0 p).1 : Int) = c := ⟨_, rfl⟩
            have HCR := Aside0.mk (show 0 ≤ c ∧ c ≤ 2147483647 by have := HD.out; omega)
            rw [hc] at HQ hg ⊢
            have writes : ∀ (T : ByteArray), T.size ≤ 92 → ∀ w3 : World, Lib.IsBuilderF 37 5 w.heap.size w.heap.size (Lib.byteCells acc) w3 → w.heap.size ≤ w3.heap.size → Calls Tryd.prog 29 #[.pointer (some ⟨w.heap.size, 0, none⟩), .string T] w3 fun e w' => e = .returned (.tuple #[.int .i64 T.size, .nilIface]) ∧ (Lib.BuilderAtF 37 5 w.heap.size w.heap.size (.pointer (some ⟨w.heap.size, 0, none⟩)) (Lib.byteCells acc ++ Lib.strCells T) w' ∧ Below w.heap.size w3 w' ∧ Lib.OthersKept 5 (some w.heap.size) w3 w') :=
              fun T hT w3 hI hs => bld_WriteString w.heap.size w.heap.size _ T w3 hI (by have := HL.out; omega) hs
            have HWR := Aside0.mk writes
            clear writes
            go_wp2_with fail
            refine (glyph_plain.calls _ q _ HQ.out).mono ?_
            rintro e w2 ⟨rfl, hd2⟩
            have hb2 := hd2.below
            have hit4 := (hb2.block _ (blk_lt hit3)).trans hit3
            have hB4 := hB3.trans (hb2.mono hB3.size)
            have hI4 := bldF_below hI3 hb2
            have hsz4 := hB4.size
            by_cases hyes : q = true ∧ c ≠ 123
            · rw [if_pos hyes] at hg
              have HG3 := Aside0.mk hg
              clear hg
              obtain ⟨rfl, h123⟩ := hyes
              have h123b : (c != 123) = true := bne_iff_ne.mpr h123
              go_wp2_with fail
              refine (bld_WriteRune w.heap.size w.heap.size _ _ (by have := HCR.out; omega) (by have := HCR.out; omega) _ hI4 (by have := HL.out; omega) hsz4).mono ?_
              rintro e w3 ⟨rfl, h3, hb3, hk3⟩
              go_wp2
              go_roundg k1
              case measure => omega
              case rel => exact ⟨_, _, HG3, by rw [Lib.byteCells_append, Lib.byteCells_encodeRune]; exact Or.inr h3, hk3.iter hit4 (by omega), hB4.trans hb3⟩
            · rw [if_neg hyes] at hg
              obtain ⟨t, ht, hg⟩ := Option.bind_eq_some_iff.mp hg
              have HT := Aside0.mk ht
              clear ht
              by_cases ht9 : t.size ≤ 90
              · rw [if_pos ht9] at hg
                have HG3 := Aside0.mk hg
                clear hg
                have z1 : (⟨#[123]⟩ : ByteArray).size = 1 := rfl
                have z2 : (⟨#[125]⟩ : ByteArray).size = 1 := rfl
                obtain ⟨T, hTd⟩ : ∃ T, (⟨#[123]⟩ : ByteArray) ++ t ++ (⟨#[125]⟩ : ByteArray) = T := ⟨_, rfl⟩
                have hTs : T.size ≤ 92 := by rw [← hTd, ByteArray.size_append, ByteArray.size_append]; omega
                have HTS := Aside0.mk hTs
                clear hTs z1 z2
                rcases hq2 : q with _ | _
                · subst hq2
                  go_wp2_with fail
                  refine (glyph_hex.calls k1 c t _ HT.out).mono ?_
                  rintro e w3 ⟨rfl, hb3⟩
                  have hit5 := (hb3.block _ (blk_lt hit4)).trans hit4
                  have hB5 := hB4.trans (hb3.mono hB4.size)
                  have hI5 := bldF_below hI4 hb3
                  have hsz5 := hB5.size
                  go_wp2_with fail
                  (try rw [hTd])
                  refine (HWR.out T HTS.out _ hI5 hsz5).mono ?_
                  rintro e w4 ⟨rfl, h4, hb4, hk4⟩
                  go_wp2
                  go_roundg k1
                  case measure => omega
                  case rel => exact ⟨_, _, HG3, by rw [hTd, glyph_cells_str]; exact Or.inr h4, hk4.iter hit5 (by omega), hB5.trans hb4⟩
                · subst hq2
                  have h123 : c = 123 := by
                    by_cases h : c = 123
                    · exact h
                    · exact absurd ⟨rfl, h⟩ hyes
                  have h123b : (c != 123) = false := bne_eq_false_iff_eq.mpr h123
                  have HC2 := Aside0.mk h123
                  clear h123 hyes
                  go_wp2_with fail
                  refine (glyph_hex.calls k1 c t _ HT.out).mono ?_
                  rintro e w3 ⟨rfl, hb3⟩
                  have hit5 := (hb3.block _ (blk_lt hit4)).trans hit4
                  have hB5 := hB4.trans (hb3.mono hB4.size)
                  have hI5 := bldF_below hI4 hb3
                  have hsz5 := hB5.size
                  go_wp2_with fail
                  (try rw [hTd])
                  refine (HWR.out T HTS.out _ hI5 hsz5).mono ?_
                  rintro e w4 ⟨rfl, h4, hb4, hk4⟩
                  go_wp2
                  go_roundg k1
                  case measure => omega
                  case rel => exact ⟨_, _, HG3, by rw [hTd, glyph_cells_str]; exact Or.inr h4, hk4.iter hit5 (by omega), hB5.trans hb4⟩
              · rw [if_neg ht9] at hg
                exact absurd hg (by simp)
        · rw [if_neg hl] at hg
          exact absurd hg (by simp)
      · rw [if_neg hp] at hg
        obtain rfl := Option.some.inj hg
        have hnx : ∀ ty, (Instr.next (.pointer (some ⟨w.heap.size + 1, 0, none⟩)) true ty).run Tryd.prog wr = _ := fun ty => Lib.run_next_end_at wr (w.heap.size + 1) a0 p ty hit hp
        go_wp2_with fail
        refine (bld_String w.heap.size w.heap.size acc _ hI hszl).mono ?_
        rintro e w1 ⟨rfl, _, hb1, _⟩
        go_wp2
        go_ret
        exact ⟨rfl, hB.trans hb1⟩

end Go.Proofs.YtlkppogpoodjlaaDoor.X
