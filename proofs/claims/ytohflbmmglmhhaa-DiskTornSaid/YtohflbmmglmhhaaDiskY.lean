/- disk: New where there is none; the reference's New; the law's 'works'. -/
import Derived.Test.YtohflbmmglmhhaaDiskX
import Derived.Test.YtohflbmmglmhhaaX5
namespace Go.Proofs.Ytohflbmmglmhhaa.Dk
open Go.RowKit Go.Proofs.Ytohflbmmglmhhaa.Mem Go.Proofs.Ytohflbmmglmhhaa.X Go.Proofs.YtohflbmmglmhhaaW.PrintWords Go.Proofs.YtohflbmmglmhhaaW.PrintLast Go.Proofs.YtohflbmmglmhhaaW.PrintMore Go.Proofs.Ytohflbmmglmhhaa.Aid
set_option linter.unusedVariables false
set_option linter.unusedSimpArgs false
set_option maxHeartbeats 1000000 in
set_option maxRecDepth 100000 in
theorem new_bad (w : World) (n m : Int) (h : ¬ (4 ≤ n ∧ n ≤ 4096 ∧ 16 ≤ m ∧ m ≤ 256)) :
    Calls Try.prog 7 #[.int .i64 n, .int .i64 m] w fun e w' => e = .returned (.tuple #[.pointer none, .int .i64 1]) ∧ w' = w := by
  go_enter Try.func7, Try.ntmps7
  by_cases h1 : n < 4
  · go_wp2
    go_ret2
    exact ⟨rfl, rfl⟩
  · by_cases h2 : 4096 < n
    · go_wp2
      go_ret2
      exact ⟨rfl, rfl⟩
    · by_cases h3 : m < 16
      · go_wp2
        go_ret2
        exact ⟨rfl, rfl⟩
      · have h4 : 256 < m := by omega
        go_wp2
        go_ret2
        exact ⟨rfl, rfl⟩
/-- the reference's rows, from printed contracts -/
theorem sl_nil {α : Type} {d : Kd α} {e t base : Nat} {ok : Nat → Prop} {w : World} {v : Value} (h : Kd.R d e w base ok v []) : Sl w e d.sz v 0 [] ∧ ∀ k, own v k → base ≤ k := by
  obtain ⟨h0, inner, ho, hr⟩ := h
  have hi : inner = [] := List.eq_nil_of_length_eq_zero (by have := hr.1; simpa using this)
  subst hi
  refine ⟨⟨by simp, ?_⟩, fun k hk => ?_⟩
  · rcases ho.2 with ⟨rfl, e0⟩ | ⟨g, cap, cur, rfl, hb, hg, h1, h2, h3, h4⟩
    · exact .inl ⟨rfl, rfl⟩
    · exact .inr ⟨g, 0, cap, cur, rfl, hg, h1, h2, by omega, by simp⟩
  · rcases ho.2 with ⟨rfl, _⟩ | ⟨g, cap, cur, rfl, hb, _⟩
    · cases hk
    · cases hk; exact hb
theorem zeros_nums (m : Nat) : strOfNums (List.replicate m 0) = zeros m := by
  apply L_inj
  rw [L_nums]
  unfold zeros
  rw [L_S, List.map_replicate]
  rfl
theorem rnew_l0 (n m : Nat) (hn : n ≤ 4096) (hm : m ≤ 256) : ∀ (j k : Nat), j ≤ n → bulletinref08_New.l0 (j + 1 + k) (n : Int) (m : Int) (((n - j : Nat) : Int)) (m : Int) (List.replicate (n - j) (zeros m)) 0 false false 0 = some ((m : Int), List.replicate n (zeros m), [], 0, false, false, 0)
  | 0, k, _ => by
    rw [show 0 + 1 + k = k + 1 by omega]
    unfold bulletinref08_New.l0
    rw [if_neg (by omega), Nat.sub_zero]
  | j + 1, k, h => by
    rw [show j + 1 + 1 + k = (j + 1 + k) + 1 by omega]
    unfold bulletinref08_New.l0
    rw [if_pos (by omega), if_pos (by omega), if_pos (by omega), if_pos (by rw [List.length_replicate]; omega), wi _ (by omega), Int.toNat_natCast, zeros_nums, ← List.replicate_succ', show n - (j + 1) + 1 = n - j by omega]
    exact rnew_l0 n m hn hm j k (by omega)
theorem rnew_calls (w : World) (n m : Nat) (hn : n ≤ 4096) (hm : m ≤ 256) : Calls Try.prog 8 #[.int .i64 (n : Int), .int .i64 (m : Int)] w fun e w' =>
    ∃ lv cv, e = .returned (.agg (dcells (new n m) lv cv)) ∧ RD w' lv cv (new n m) ∧ Below w.heap.size w w' ∧ (∀ k, own lv k ∨ own cv k → w.heap.size ≤ k) := by
  have hf : bulletinref08_New.f (n + 1 + 0) (n : Int) (m : Int) = some ((m : Int), List.replicate n (zeros m), [], 0, false, false, 0) := by
    unfold bulletinref08_New.f
    have := rnew_l0 n m hn hm n 0 (Nat.le_refl n)
    rw [Nat.sub_self] at this
    exact this
  refine (bulletinref08_New.calls (n + 1 + 0) (n : Int) (m : Int) _ _ _ _ _ _ _ w hf).mono ?_
  rintro e w' ⟨v1, v2, rfl, h1, h2, hb⟩
  obtain ⟨s1, o1⟩ := sl_strs h1
  obtain ⟨s2, o2⟩ := sl_nil (t := 0) h2
  refine ⟨v1, v2, rfl, ⟨?_, ?_⟩, hb, fun k hk => hk.elim (o1 k) (o2 k)⟩
  · show Sl w' _ 1 v1 (new n m).l.length ((new n m).l.map Value.string)
    exact s1
  · exact s2
def ex16 : ByteArray := ⟨#[48, 49, 50, 51, 52, 53, 54, 55, 56, 57, 97, 98, 99, 100, 101, 102]⟩
theorem works_pure : (put (new 4 16) 1 ex16).2 = 0 ∧ rd (put (new 4 16) 1 ex16).1 1 = (ex16, 0) ∧ rd (crash (put (new 4 16) 1 ex16).1 [] (-1)) 1 = (zeros 16, 0) := by
  refine ⟨by decide +kernel, ?_, ?_⟩
  · exact Prod.ext (by decide +kernel) (by decide +kernel)
  · exact Prod.ext (by decide +kernel) (by decide +kernel)
theorem new_few (n m : Nat) : Few (new n m) 0 := ⟨Nat.le_refl _, Nat.le_refl _⟩
set_option maxHeartbeats 4000000 in
set_option maxRecDepth 100000 in
theorem works_calls (w : World) : Calls Try.prog 6 #[] w fun e w' => e = .returned (.bool true) ∧ Below w.heap.size w w' := by
  have hnew := new_calls w 4 16 (by omega) (by omega) (by omega) (by omega)
  obtain ⟨p1, p2, p3⟩ := works_pure
  have hf0 := new_fine 4 16 (by omega) (by omega)
  have hf1 := put_fine _ 1 ex16 hf0
  have hw1 := put_few _ 1 ex16 0 (new_few 4 16)
  have hf2 := crash_fine _ [] (-1) hf1
  obtain ⟨d1, hd1⟩ : ∃ d1, (put (new 4 16) 1 ex16).1 = d1 := ⟨_, rfl⟩
  go_enter Try.func6, Try.ntmps6
  go_wp2_with fail
  refine hnew.mono ?_
  rintro e w1 ⟨p, rfl, hP, hb1⟩
  have hwr := write_calls w1 p _ _ hP 1 ex16 hf0.left (by have := (new_few 4 16).1; omega) (by have := (new_few 4 16).2; omega)
  rw [p1, hd1] at hwr
  rw [hd1] at p2 p3 hf1 hw1 hf2
  unfold ex16 at hwr
  clear hnew hd1 p1
  go_wp2_with fail
  refine hwr.mono ?_
  rintro e w2 ⟨rfl, hp2⟩
  have hb2 : Below w.heap.size w w2 := Only.below_mine hp2.2 (fun k hk => hk.1) hb1.size hb1
  have hrd := read_calls w2 p _ _ hp2.1 1 (by have := hw1.2; omega)
  rw [p2] at hrd
  simp only at hrd
  have hcr := crash_calls w2 p _ _ hp2.1 hf1 (by have := hw1.2; omega) none 0 [] (-1) (fun W _ => ⟨rfl, by simp, fun h => absurd h (Nat.lt_irrefl 0)⟩) (Nat.le_refl _) (by omega) (by omega)
  simp only [List.length_nil] at hcr
  have hs1 := hb1.size
  have HP := Lib.hid (And.intro p3 (And.intro hb2 hw1))
  clear hwr hP p2 p3 hb1 hb2 hw1 hp2
  unfold ex16 at hrd
  go_wp2_with fail
  refine hrd.mono ?_
  rintro e w3 ⟨rfl, rfl⟩
  go_wp2_with fail
  refine hcr.mono ?_
  rintro e w4 ⟨rfl, hp4⟩
  have hb4 : Below w.heap.size w w4 := Only.below_mine hp4.2 (fun k hk => by
    rcases hk with hk | hk
    · exact hk.1
    · have := hk.1
      omega) HP.out.2.1.size HP.out.2.1
  have hrd2 := read_calls w4 p _ _ hp4.1 1 (Nat.zero_le _)
  rw [HP.out.1] at hrd2
  simp only at hrd2
  have HB := Lib.hid hb4
  clear hrd hcr hp4 hb4
  obtain ⟨i0, hi, hz0, hz1, hz2⟩ := info_parts info_u8
  have hmk := run_make_sl (P := Try.prog) 53 5 i0 (.int .u8 0) Try.underlying53 hi hz0 .i64 .i64 16 (by rw [hz2]; omega) (by omega) w4
  have hm1 : (madeCells (Value.int .u8 0).cells (16 * i0.size)) = madeCells #[Value.int .u8 0] 16 := by rw [hz1]; rfl
  rw [hm1] at hmk
  have hmk2 : (Instr.makeSlice 53 (.int .i64 16) (.int .i64 16)).run Try.prog w4 = .ok (.slice (some ⟨w4.heap.size, 0, none⟩) 16 16) (w4.alloc (.cells (madeCells #[Value.int .u8 0] 16) 5)) := hmk
  have hs : Sl (w4.alloc (.cells (madeCells #[Value.int .u8 0] 16) 5)) 5 1 (.slice (some ⟨w4.heap.size, 0, none⟩) (List.replicate 16 (0 : UInt8)).length 16) (List.replicate 16 (0 : UInt8)).length (bts (List.replicate 16 0)) := by
    have h1 := Sl.of_blk (e := 5) (size := 1) (n := 16) (Blk.new w4 5 (madeCells #[Value.int .u8 0] 16)) (Nat.le_refl 16) (by unfold maxLen; omega) (by rw [madeCells_one]; simp)
    rw [madeCells_one] at h1 ⊢
    exact h1
  have hcv := Sl.str (P := Try.prog) (src := 53) (dst := 9) hs Try.underlying53 Try.underlying5 Try.underlying9
  have hlen : (List.replicate 16 (0 : UInt8)).length = 16 := rfl
  rw [hlen] at hcv
  have hq : ((zeros 16).toList == ([0, 0, 0, 0, 0, 0, 0, 0, 0, 0, 0, 0, 0, 0, 0, 0] : List UInt8)) = true := by decide +kernel
  clear hs hlen hm1 hmk hi hz0 hz1 hz2
  go_wp2_with fail
  refine hrd2.mono ?_
  rintro e w5 ⟨rfl, rfl⟩
  clear hrd2
  go_wp2
  go_ret
  exact ⟨rfl, HB.out.alloc HB.out.size _⟩
end Go.Proofs.Ytohflbmmglmhhaa.Dk
