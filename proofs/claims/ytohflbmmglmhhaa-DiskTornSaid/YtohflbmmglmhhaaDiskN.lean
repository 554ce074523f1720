/- disk: New, walked. -/
import Derived.Test.YtohflbmmglmhhaaDiskC
import Derived.Test.YtohflbmmglmhhaaX1
import Derived.Deep.RegionWith
namespace Go.Proofs.Ytohflbmmglmhhaa.Dk
open Go.RowKit Go.Proofs.Ytohflbmmglmhhaa.Mem Go.Proofs.Ytohflbmmglmhhaa.X Go.Proofs.YtohflbmmglmhhaaW.PrintWords Go.Proofs.YtohflbmmglmhhaaW.PrintLast Go.Proofs.YtohflbmmglmhhaaW.PrintMore Go.Proofs.Ytohflbmmglmhhaa.Aid
set_option linter.unusedVariables false
set_option linter.unusedSimpArgs false
theorem info_s : (Try.prog.info? 9).map (fun i => (i.zero, i.size, i.bytes)) = some (some (.string ⟨#[]⟩), 1, 16) := by kernel_rfl
def zeros (n : Nat) : ByteArray := S (List.replicate n 0)
theorem zeros_size (n : Nat) : (zeros n).size = n := by unfold zeros; rw [sz, L_S, List.length_replicate]
/-- the first so many sectors are laid -/
def fillN (n size k : Nat) : List ByteArray := List.replicate k (zeros size) ++ List.replicate (n - k) ⟨#[]⟩
theorem fillN_len (n size k : Nat) (h : k ≤ n) : (fillN n size k).length = n := by simp [fillN]; omega
theorem fillN_set (n size k : Nat) (h : k < n) : (fillN n size k).set k (zeros size) = fillN n size (k + 1) := by
  unfold fillN
  rw [List.set_append_right _ _ (by simp), List.length_replicate, Nat.sub_self]
  obtain ⟨m, hm⟩ : ∃ m, n - k = m + 1 := ⟨n - k - 1, by omega⟩
  have hm2 : n - (k + 1) = m := by omega
  rw [hm, hm2, List.replicate_succ, List.set_cons_zero, List.replicate_succ', List.append_assoc]
  rfl
theorem repeat_one : ∀ m : Nat, Lib.repeatL ([0] : List UInt8) m = List.replicate m 0
  | 0 => rfl
  | m + 1 => by rw [List.replicate_succ, ← repeat_one m]; rfl
def dnew (n size : Nat) : D := ⟨size, fillN n size 0, [], 0, false, false, 0⟩
theorem new_eq (n size : Nat) : new n size = ⟨size, fillN n size n, [], 0, false, false, 0⟩ := by
  unfold new fillN zeros
  rw [Nat.sub_self]
  simp
set_option maxHeartbeats 4000000 in
set_option maxRecDepth 100000 in
theorem new_calls (w : World) (n m : Nat) (h1 : 4 ≤ n) (h2 : n ≤ 4096) (h3 : 16 ≤ m) (h4 : m ≤ 256) :
    Calls Try.prog 7 #[.int .i64 (n : Int), .int .i64 (m : Int)] w fun e w' => ∃ p, e = .returned (.tuple #[.pointer (some ⟨p, 0, none⟩), .int .i64 0]) ∧ PD w' p (mine w.heap.size w') (new n m) ∧ Below w.heap.size w w' := by
  obtain ⟨i0, hi, hz0, hz1, hz2⟩ := info_parts info_s
  have hmk := run_make_sl (P := Try.prog) 29 9 i0 (.string ⟨#[]⟩) Try.underlying29 hi hz0 .i64 .i64 n (by rw [hz2]; omega) (by omega) w
  have hm1 : (madeCells (Value.string ⟨#[]⟩).cells (n * i0.size)) = madeCells #[Value.string ⟨#[]⟩] n := by rw [hz1, Nat.mul_one]; rfl
  rw [hm1] at hmk
  have hrep : ∀ W, Calls Try.prog 19 #[.string ⟨#[0]⟩, .int .i64 (m : Int)] W fun e w' => e = .returned (.string (zeros m)) ∧ Below W.heap.size W w' := fun W => by
    refine strings_Repeat.calls _ _ _ W ?_
    unfold strings_Repeat.f
    rw [if_pos ⟨by omega, by omega, by show 1 * _ ≤ _; omega⟩, Int.toNat_natCast]
    show some (⟨(Lib.repeatL [0] m).toArray⟩ : ByteArray) = _
    rw [repeat_one]
    rfl
  have d1 : decide ((n : Int) < 4) = false := decide_eq_false (by omega)
  have d2 : decide (4096 < (n : Int)) = false := decide_eq_false (by omega)
  have d3 : decide ((m : Int) < 16) = false := decide_eq_false (by omega)
  have d4 : decide (256 < (m : Int)) = false := decide_eq_false (by omega)
  go_enter Try.func7, Try.ntmps7
  have hB1 := (Blk.new w 9 (madeCells #[Value.string ⟨#[]⟩] n)).alloc (.cells (dcells (dnew n m) (.slice (some ⟨w.heap.size, 0, none⟩) n n) (.slice none 0 0)) 56)
  have hP1 := Blk.new (w.alloc (.cells (madeCells #[Value.string ⟨#[]⟩] n) 9)) 56 (dcells (dnew n m) (.slice (some ⟨w.heap.size, 0, none⟩) n n) (.slice none 0 0))
  have hb1 : Below w.heap.size w ((w.alloc (.cells (madeCells #[Value.string ⟨#[]⟩] n) 9)).alloc (.cells (dcells (dnew n m) (.slice (some ⟨w.heap.size, 0, none⟩) n n) (.slice none 0 0)) 56)) := ((Below.refl _ w).alloc (Nat.le_refl _) _).alloc (by simp) _
  rw [World.size_alloc] at hP1
  have hOp : Op ((w.alloc (.cells (madeCells #[Value.string ⟨#[]⟩] n) 9)).alloc (.cells (dcells (dnew n m) (.slice (some ⟨w.heap.size, 0, none⟩) n n) (.slice none 0 0)) 56)) (w.heap.size + 1)
      (mine w.heap.size ((w.alloc (.cells (madeCells #[Value.string ⟨#[]⟩] n) 9)).alloc (.cells (dcells (dnew n m) (.slice (some ⟨w.heap.size, 0, none⟩) n n) (.slice none 0 0)) 56))) (.slice (some ⟨w.heap.size, 0, none⟩) n n) (.slice none 0 0) (dnew n m) := by
    refine ⟨hP1, ⟨by omega, hP1.lt⟩, fun k hk => hk.2, ?_, fun k hk => by cases hk; exact ⟨Nat.le_refl _, hB1.lt⟩, Sl.nil _ _ _, fun k hk => by cases hk⟩
    have hs := Sl.of_blk (e := 9) (size := 1) (n := n) hB1 (Nat.le_refl n) (by unfold maxLen; omega) (by rw [madeCells_one]; simp)
    have e1 : (dnew n m).l.length = n := fillN_len n m 0 (by omega)
    rw [e1]
    have e2 : List.take (n * 1) (madeCells #[Value.string ⟨#[]⟩] n).toList = (dnew n m).l.map Value.string := by
      rw [madeCells_one]
      simp [dnew, fillN]
    rw [e2] at hs
    exact hs
  clear hB1 hP1
  go_wp2
  go_loopw [32] (fun i wr => ∃ k : Nat, k ≤ n ∧ i = .int .i64 k ∧ Op wr (w.heap.size + 1) (mine w.heap.size wr) (.slice (some ⟨w.heap.size, 0, none⟩) n n) (.slice none 0 0) ⟨m, fillN n m k, [], 0, false, false, 0⟩ ∧ Below w.heap.size w wr) (fun i _ => n - (intOf i).toNat)
  case atStart => exact ⟨0, Nat.zero_le _, rfl, hOp, hb1⟩
  case round =>
    clear hOp hb1 hmk hm1
    obtain ⟨k, hk, rfl, hO, hb⟩ := hrel
    have hfl := fillN_len n m k hk
    by_cases hlt : k < n
    · have hki : (k : Int) < (n : Int) := by omega
      have hO' := hO.drew
      have hb' := hb.drew
      obtain ⟨z0, z1, z2, z3, z4, z5, z6⟩ := hO'.cells
      have hnext := fillN_set n m k hlt
      have HR := Lib.hid hrep
      have hs' := hb'.size
      clear hO hb hrep z0 z2 z3 z4 z5 z6
      go_wp2
      have hmineF : ∀ W, Below wr.drew.heap.size wr.drew W → (∀ k', mine w.heap.size wr k' → k' < W.heap.size) := fun W hW k' hk' => Nat.lt_of_lt_of_le hk'.2 hW.size
      have NX : Hid (∀ W, Below wr.drew.heap.size wr.drew W → W.cell? ⟨w.heap.size + 1, 1, none⟩ = some (.slice (some ⟨w.heap.size, 0, none⟩) n n) ∧ W.cell? ⟨w.heap.size, k, none⟩ = some (.string ((fillN n m k)[k]'(by omega))) ∧ W.frozen? ⟨w.heap.size, k, none⟩ = false ∧
          (Op (W.setCell ⟨w.heap.size, k, none⟩ (.string (zeros m))) (w.heap.size + 1) (mine w.heap.size (W.setCell ⟨w.heap.size, k, none⟩ (.string (zeros m)))) (.slice (some ⟨w.heap.size, 0, none⟩) n n) (.slice none 0 0) ⟨m, fillN n m (k + 1), [], 0, false, false, 0⟩ ∧ Below w.heap.size w (W.setCell ⟨w.heap.size, k, none⟩ (.string (zeros m))))) := Lib.hid fun W hW => by
        have hO9 := hO'.only (Only.of_below hW none_) (fun _ _ e => e)
        have b9 := hb'.trans (hW.mono hs')
        obtain ⟨h8, o8⟩ := Op.sec hO9 hfl k hlt (zeros m)
        have hsec : Sl W 9 1 (.slice (some ⟨w.heap.size, 0, none⟩) n n) n ((fillN n m k).map Value.string) := by
          have h := hO9.secs
          simp only [hfl] at h
          exact h
        have hc := hsec.cell rfl (j := k) (by omega)
        have hf := hsec.frozen rfl (0 + k)
        rw [Nat.zero_add] at hc hf h8 o8
        refine ⟨(hO9.cells).2.1, ?_, hf, ?_, ?_⟩
        · rw [hc, List.getElem?_map, List.getElem?_eq_getElem (by omega)]; rfl
        · rw [← hnext]
          exact h8.mono (fun k' hk' => ⟨hk'.1, Nat.lt_of_lt_of_le hk'.2 (Nat.le_trans hW.size o8.size)⟩) (fun k' hk' => hk'.2)
        · exact b9.setCell (p := ⟨w.heap.size, k, none⟩) (Nat.le_refl _) _
      clear hO' hb' hs' hmineF hnext
      go_region_with (go_at_call 19; go_loud (refine (HR.out _).mono ?_); rintro e w9 ⟨rfl, c9⟩; obtain ⟨q1, q2, q3, q4, q5⟩ := NX.out w9 c9)
      all_goals
        go_wp2
        go_roundw
        case rel => exact ⟨k + 1, by omega, by go_num, q4, q5⟩
        case measure => simp [intOf]; omega
    · have hkn : k = n := by omega
      subst hkn
      go_wp2
      go_ret2
      exact ⟨_, rfl, ⟨_, _, by rw [new_eq]; exact hO⟩, hb⟩
end Go.Proofs.Ytohflbmmglmhhaa.Dk
