/- The walk of VerbBack, by hand: the printer has no word for '[]byte(s)'. The contract says what happens where all is as the law tells. -/
import Derived.Test.YtaamnpomclenpaaDoorX
import Derived.Laws.IdiomStrings
import Derived.LoopN
namespace Go.Proofs.YtaamnpomclenpaaDoor.VBack
open Go.RowKit Go.Proofs.YtaamnpomclenpaaDoor.X Go.Proofs.YtaamnpomclenpaaDoorW.PrintWords Go.Proofs.YtaamnpomclenpaaDoorW.PrintLast Go.Proofs.YtaamnpomclenpaaDoorW.PrintMore
attribute [local go_sem] max2_int min2_int max_two min_two max_three min_three max_four min_four
set_option linter.unusedVariables false
set_option linter.unusedSimpArgs false
/-- the first four bytes turned into small letters -/
def lo (s : ByteArray) : List UInt8 := (s.data.toList.take 4).map (fun c => c - 65 + 97) ++ s.data.toList.drop 4
def low4 (s : ByteArray) : ByteArray := ⟨(lo s).toArray⟩
theorem low_all : ∀ n : Nat, n < 256 → ((n : Int) - 65 + 97) % 256 = ((UInt8.ofNat n - 65 + 97 : UInt8).toNat : Int) := by decide +kernel
theorem low_val (c : UInt8) : ((c.toNat : Int) - 65 + 97) % 256 = ((c - 65 + 97 : UInt8).toNat : Int) := by
  have := low_all c.toNat c.toNat_lt
  simpa using this
theorem lo_len (s : ByteArray) : (lo s).length = s.size := by
  have : s.data.toList.length = s.size := by simp
  unfold lo
  rw [List.length_append, List.length_map, List.length_take, List.length_drop]
  omega
theorem lo_get (s : ByteArray) (j : Nat) (hj : j < s.size) : (lo s)[j]? = some (if j < 4 then s.data[j] - 65 + 97 else s.data[j]) := by
  have hl : s.data.toList.length = s.size := by simp
  have hj' : j < s.data.size := hj
  unfold lo
  by_cases h : j < 4
  · rw [if_pos h, List.getElem?_append_left (by rw [List.length_map, List.length_take]; omega)]
    simp [h, hj']
  · rw [if_neg h, List.getElem?_append_right (by rw [List.length_map, List.length_take]; omega)]
    rw [List.length_map, List.length_take, List.getElem?_drop, show 4 + (j - min 4 s.data.toList.length) = j from by omega]
    simp [hj']
theorem lo_at (s : ByteArray) (j : Nat) (hj : j < s.size) (h' : j < (lo s).length) : (lo s)[j] = if j < 4 then s.data[j] - 65 + 97 else s.data[j] :=
  Option.some.inj ((List.getElem?_eq_getElem h').symm.trans (lo_get s j hj))
theorem four (w : World) (B : Nat) (s : ByteArray) (h4 : 4 ≤ s.size) (hcell : ∀ j (hj : j < s.size), w.cell? ⟨B, j, none⟩ = some (.int .u8 (s.data[j].toNat : Int))) (j : Nat) (hj : j < (lo s).length) :
    ((((w.setCell ⟨B, 0, none⟩ (.int .u8 (((s.data[0]'(show 0 < s.size by omega)).toNat - 65 + 97 : Int) % 256))).setCell ⟨B, 1, none⟩ (.int .u8 (((s.data[1]'(show 1 < s.size by omega)).toNat - 65 + 97 : Int) % 256))).setCell ⟨B, 2, none⟩ (.int .u8 (((s.data[2]'(show 2 < s.size by omega)).toNat - 65 + 97 : Int) % 256))).setCell ⟨B, 3, none⟩ (.int .u8 (((s.data[3]'(show 3 < s.size by omega)).toNat - 65 + 97 : Int) % 256))).cell? ⟨B, j, none⟩ = some (.int .u8 ((lo s)[j].toNat : Int)) := by
  have hj' : j < s.size := by rw [← lo_len]; exact hj
  rw [lo_at s j hj' hj]
  have ne : ∀ a b : Nat, a ≠ b → (⟨B, a, none⟩ : Addr) ≠ ⟨B, b, none⟩ := fun a b h e => h (by injection e)
  have he := hcell j hj'
  by_cases h : j < 4
  · rw [if_pos h, ← low_val]
    have hc : j = 0 ∨ j = 1 ∨ j = 2 ∨ j = 3 := by omega
    rcases hc with rfl | rfl | rfl | rfl
    · rw [World.cell?_setCell_other _ _ _ _ (ne 3 0 (by omega)), World.cell?_setCell_other _ _ _ _ (ne 2 0 (by omega)), World.cell?_setCell_other _ _ _ _ (ne 1 0 (by omega)), World.cell?_setCell_same _ _ _ he]
    · rw [World.cell?_setCell_other _ _ _ _ (ne 3 1 (by omega)), World.cell?_setCell_other _ _ _ _ (ne 2 1 (by omega))]
      exact World.cell?_setCell_same _ _ _ ((World.cell?_setCell_other _ _ _ _ (ne 0 1 (by omega))).trans he)
    · rw [World.cell?_setCell_other _ _ _ _ (ne 3 2 (by omega))]
      exact World.cell?_setCell_same _ _ _ ((World.cell?_setCell_other _ _ _ _ (ne 1 2 (by omega))).trans ((World.cell?_setCell_other _ _ _ _ (ne 0 2 (by omega))).trans he))
    · exact World.cell?_setCell_same _ _ _ ((World.cell?_setCell_other _ _ _ _ (ne 2 3 (by omega))).trans ((World.cell?_setCell_other _ _ _ _ (ne 1 3 (by omega))).trans ((World.cell?_setCell_other _ _ _ _ (ne 0 3 (by omega))).trans he)))
  · rw [if_neg h, World.cell?_setCell_other _ _ _ _ (ne 3 j (by omega)), World.cell?_setCell_other _ _ _ _ (ne 2 j (by omega)), World.cell?_setCell_other _ _ _ _ (ne 1 j (by omega)), World.cell?_setCell_other _ _ _ _ (ne 0 j (by omega)), he]
set_option maxHeartbeats 8000000 in
set_option maxRecDepth 100000 in
theorem back_calls (k : Nat) (a0 s b : ByteArray) (v : Int) (w : World) (hT0 : Aside0 (Tabs w))
    (h0 : bulletinlaw27_works.f k = some true) (hsz : a0.size ≤ 1200) (h1 : verb_Read.f k a0 = some (v, b, 0)) (h2 : verb_Command_Text.f v b = some s) (h4 : 4 ≤ s.size) (hs : s.size ≤ 100000)
    (h5 : verb_Read.f k s = some (v, b, 0)) (h6 : verb_Read.f k (s ++ (⟨#[32, 32]⟩ : ByteArray)) = some (v, b, 0)) (h7 : verb_Read.f k (low4 s) = some (v, b, 0)) :
    Calls Tryd.prog 4 #[.string a0] w fun e w' => e = .returned (.bool true) ∧ Below w.heap.size w w' := by
  have hu25 := Tryd.underlying25
  have H1 := Aside0.mk h1
  have H2 := Aside0.mk h2
  have H5 := Aside0.mk h5
  have H6 := Aside0.mk h6
  have H7 := Aside0.mk h7
  clear h1 h2 h5 h6 h7
  go_enter Tryd.func4, Tryd.ntmps4
  go_wp2_with fail
  refine (bulletinlaw27_works.calls k true _ hT0 h0).mono ?_
  rintro e w1 ⟨rfl, hb1⟩
  have hT1 := Tabs.a hT0 hb1
  have hd : decide (1200 < (a0.size : Int)) = false := decide_eq_false (by omega)
  go_wp2_with fail
  refine (verb_Read.calls k a0 v b 0 _ hT1 H1.out).mono ?_
  rintro e w2 ⟨rfl, hb2⟩
  have hT2 := Tabs.a hT1 hb2
  go_wp2_with fail
  refine (verb_Command_Text.calls v b s _ (Tabs.a hT2 ((Below.refl _ w2).alloc (Nat.le_refl _) _)) H2.out).mono ?_
  rintro e w3 ⟨rfl, hb3⟩
  have hT3 := Tabs.a (Tabs.a hT2 ((Below.refl _ w2).alloc (Nat.le_refl _) _)) hb3
  have hBk := blk_below (blk_new w2 (.cells #[.int .i64 v, .string b] 25)) hb3
  have hB3 : Below w.heap.size w w3 := below_step (below_alloc (below_step hb1 hb2) _) hb3
  have hg2 : w.heap.size ≤ w2.heap.size := below_size (below_step hb1 hb2)
  have hd4 : decide ((s.size : Int) < 4) = false := decide_eq_false (by omega)
  obtain ⟨g, hg⟩ : ∃ g, w2.heap.size = g := ⟨_, rfl⟩
  rw [hg] at hBk hg2
  simp only [hg]
  have hconv := run_bytes_of_string (P := Tryd.prog) w3 9 34 5 s Tryd.underlying9 Tryd.underlying34 Tryd.underlying5
  have hgl : g < w3.heap.size := blk_lt hBk
  clear hb1 hb2 hb3 hT1 hT2 h0 hd hg
  go_wp2_with fail
  obtain ⟨B, hBdef⟩ : ∃ B, w3.heap.size = B := ⟨_, rfl⟩
  have hB0 : w.heap.size ≤ B := by rw [← hBdef]; exact hB3.size
  have hgB : g ≠ B := by omega
  obtain ⟨cap, hcap⟩ : ∃ c, grownCap w3 s.size 0 5 = c := ⟨_, rfl⟩
  have hblk := blk_drew (heap_alloc_new w3 (Obj.cells (bytesRow s (grownCap w3 s.size 0 5)) 5 ((bytesRow s (grownCap w3 s.size 0 5)).size, (bytesRow s (grownCap w3 s.size 0 5)).size + 1)))
  have hBk4 := blk_drew (blk_alloc hBk (Obj.cells (bytesRow s (grownCap w3 s.size 0 5)) 5 ((bytesRow s (grownCap w3 s.size 0 5)).size, (bytesRow s (grownCap w3 s.size 0 5)).size + 1)))
  have hB4 := below_drew1 (below_alloc hB3 (Obj.cells (bytesRow s (grownCap w3 s.size 0 5)) 5 ((bytesRow s (grownCap w3 s.size 0 5)).size, (bytesRow s (grownCap w3 s.size 0 5)).size + 1)))
  have hT4 := Tabs.a hT3 (below_drew1 (below_alloc (Below.refl w3.heap.size w3) (Obj.cells (bytesRow s (grownCap w3 s.size 0 5)) 5 ((bytesRow s (grownCap w3 s.size 0 5)).size, (bytesRow s (grownCap w3 s.size 0 5)).size + 1))))
  obtain ⟨w4, hw4⟩ : ∃ x, (w3.alloc (Obj.cells (bytesRow s (grownCap w3 s.size 0 5)) 5 ((bytesRow s (grownCap w3 s.size 0 5)).size, (bytesRow s (grownCap w3 s.size 0 5)).size + 1))).drew = x := ⟨_, rfl⟩
  simp only [hw4] at hblk hBk4 hB4 hT4 ⊢
  simp only [hBdef, hcap] at hblk ⊢
  have hsd : s.data.size = s.size := rfl
  have hcell : ∀ j (hj : j < s.size), w4.cell? ⟨B, j, none⟩ = some (.int .u8 (s.data[j].toNat : Int)) := by
    intro j hj
    rw [cell_of_row w4 B j _ _ _ hblk]
    simp [bytesRow, Array.getElem?_append, hj]
  have hfro : ∀ j, j < s.size → w4.frozen? ⟨B, j, none⟩ = false := by
    intro j hj
    simp [World.frozen?, hblk, bytesRow]
    omega
  clear hblk hconv hBk hB3 hT3 hw4 hBdef hcap
  have c0 := hcell 0 (by omega)
  have c1 := hcell 1 (by omega)
  have c2 := hcell 2 (by omega)
  have c3 := hcell 3 (by omega)
  have f0 := hfro 0 (by omega)
  have f1 := hfro 1 (by omega)
  have f2 := hfro 2 (by omega)
  have f3 := hfro 3 (by omega)
  refine wp_loop_rounds 5 ?_
  rw [rounds_succ]
  go_wp2_with fail
  rw [rounds_succ]
  go_wp2_with fail
  rw [rounds_succ]
  go_wp2_with fail
  rw [rounds_succ]
  go_wp2_with fail
  rw [rounds_succ]
  go_wp2_with fail
  have hc5 := four w4 B s h4 hcell
  have hBk5 := blk_far (p := ⟨B, 3, none⟩) (blk_far (p := ⟨B, 2, none⟩) (blk_far (p := ⟨B, 1, none⟩) (blk_far (p := ⟨B, 0, none⟩) hBk4 hgB (.int .u8 (((s.data[0]'(show 0 < s.size by omega)).toNat - 65 + 97 : Int) % 256))) hgB (.int .u8 (((s.data[1]'(show 1 < s.size by omega)).toNat - 65 + 97 : Int) % 256))) hgB (.int .u8 (((s.data[2]'(show 2 < s.size by omega)).toNat - 65 + 97 : Int) % 256))) hgB (.int .u8 (((s.data[3]'(show 3 < s.size by omega)).toNat - 65 + 97 : Int) % 256))
  have hB5 := below_set (j := 3) (v := .int .u8 (((s.data[3]'(show 3 < s.size by omega)).toNat - 65 + 97 : Int) % 256)) (below_set (j := 2) (v := .int .u8 (((s.data[2]'(show 2 < s.size by omega)).toNat - 65 + 97 : Int) % 256)) (below_set (j := 1) (v := .int .u8 (((s.data[1]'(show 1 < s.size by omega)).toNat - 65 + 97 : Int) % 256)) (below_set (j := 0) (v := .int .u8 (((s.data[0]'(show 0 < s.size by omega)).toNat - 65 + 97 : Int) % 256)) hB4 hB0) hB0) hB0) hB0
  obtain ⟨w5, hw5⟩ : ∃ x, ((((w4.setCell ⟨B, 0, none⟩ (.int .u8 (((s.data[0]'(show 0 < s.size by omega)).toNat - 65 + 97 : Int) % 256))).setCell ⟨B, 1, none⟩ (.int .u8 (((s.data[1]'(show 1 < s.size by omega)).toNat - 65 + 97 : Int) % 256))).setCell ⟨B, 2, none⟩ (.int .u8 (((s.data[2]'(show 2 < s.size by omega)).toNat - 65 + 97 : Int) % 256))).setCell ⟨B, 3, none⟩ (.int .u8 (((s.data[3]'(show 3 < s.size by omega)).toNat - 65 + 97 : Int) % 256))) = x := ⟨_, rfl⟩
  simp only [hw5] at hc5 hBk5 hB5 ⊢
  clear hw5 hcell hfro c0 c1 c2 c3 f0 f1 f2 f3 hBk4 hB4 hT4
  have hT5 := Tabs.a hT0 hB5
  have hBl : B < w5.heap.size := World.block_lt_of_cell? w5 _ (hc5 0 (by rw [lo_len]; omega))
  refine (verb_Read.calls k s v b 0 _ hT5 H5.out).mono ?_
  rintro e w6 ⟨rfl, hb6⟩
  have hBk6 := blk_below hBk5 hb6
  have hB6 := below_step hB5 hb6
  have hc6 : ∀ j (hj : j < (lo s).length), w6.cell? ⟨B, j, none⟩ = some (.int .u8 ((lo s)[j].toNat : Int)) := fun j hj => (hb6.cell (p := ⟨B, j, none⟩) hBl).trans (hc5 j hj)
  have hBl6 : B < w6.heap.size := World.block_lt_of_cell? w6 _ (hc6 0 (by rw [lo_len]; omega))
  clear hc5 hBk5 hB5 hT5 hb6 hBl
  have hz2 : ((s.size : Int) + 2) ≤ 9223372036854775807 := by omega
  go_wp2_with fail
  have hBkx := blk_new w6 (.cells #[.int .i64 v, .string b] 25)
  have hBk6' := blk_alloc hBk6 (.cells #[.int .i64 v, .string b] 25)
  have hB6' := below_alloc hB6 (.cells #[.int .i64 v, .string b] 25)
  have hc6' : ∀ j (hj : j < (lo s).length), (w6.alloc (.cells #[.int .i64 v, .string b] 25)).cell? ⟨B, j, none⟩ = some (.int .u8 ((lo s)[j].toNat : Int)) := fun j hj => (World.cell?_alloc_old _ _ _ (Nat.ne_of_lt hBl6)).trans (hc6 j hj)
  have hBl6' : B < (w6.alloc (.cells #[.int .i64 v, .string b] 25)).heap.size := World.block_lt_of_cell? _ _ (hc6' 0 (by rw [lo_len]; omega))
  refine (verb_Read.calls k _ v b 0 _ (Tabs.a hT0 hB6') H6.out).mono ?_
  rintro e w7 ⟨rfl, hb7⟩
  have hBk7 := blk_below hBk6' hb7
  have hBkx7 := blk_below hBkx hb7
  have hB7 := below_step hB6' hb7
  have hc7 : ∀ j (hj : j < (lo s).length), w7.cell? ⟨B, j, none⟩ = some (.int .u8 ((lo s)[j].toNat : Int)) := fun j hj => (hb7.cell (p := ⟨B, j, none⟩) hBl6').trans (hc6' j hj)
  have hBl7 : B < w7.heap.size := World.block_lt_of_cell? w7 _ (hc7 0 (by rw [lo_len]; omega))
  obtain ⟨gx, hgx⟩ : ∃ x, w6.heap.size = x := ⟨_, rfl⟩
  simp only [hgx] at hBkx7 ⊢
  clear hBkx hBk6' hB6' hc6' hBl6' hb7 hBk6 hB6 hc6 hBl6 hz2
  have hBky := blk_new w7 (.cells #[.int .i64 v, .string b] 25)
  have hBk8 := blk_alloc hBk7 (.cells #[.int .i64 v, .string b] 25)
  have hBkx8 := blk_alloc hBkx7 (.cells #[.int .i64 v, .string b] 25)
  have hB8 := below_alloc hB7 (.cells #[.int .i64 v, .string b] 25)
  have hc8 : ∀ j (hj : j < (lo s).length), (w7.alloc (.cells #[.int .i64 v, .string b] 25)).cell? (Addr.add ⟨B, 0, none⟩ j) = some (.int .u8 ((lo s)[j].toNat : Int)) := fun j hj => by
    have : Addr.add ⟨B, 0, none⟩ j = ⟨B, j, none⟩ := by
      simp [Addr.add]
      exact fun h => h.symm
    rw [this]
    exact (World.cell?_alloc_old _ _ _ (Nat.ne_of_lt hBl7)).trans (hc7 j hj)
  have hback := run_convert_bytes_back (P := Tryd.prog) (w7.alloc (.cells #[.int .i64 v, .string b] 25)) 34 9 5 ⟨B, 0, none⟩ cap (lo s) Tryd.underlying34 Tryd.underlying5 Tryd.underlying9 hc8
  rw [lo_len] at hback
  clear hc7 hc8 hBk7 hBkx7 hB7
  go_wp2_with fail
  have H7' : Aside0 (verb_Read.f k (⟨(lo s).toArray⟩ : ByteArray) = some (v, b, 0)) := H7
  refine (verb_Read.calls k _ v b 0 _ (Tabs.a hT0 hB8) H7'.out).mono ?_
  rintro e w9 ⟨rfl, hb9⟩
  have hBk9 := blk_below hBk8 hb9
  have hBkx9 := blk_below hBkx8 hb9
  have hBky9 := blk_below hBky hb9
  have hB9 := below_step hB8 hb9
  obtain ⟨gy, hgy⟩ : ∃ x, w7.heap.size = x := ⟨_, rfl⟩
  simp only [hgy] at hBky9 ⊢
  clear hBk8 hBkx8 hBky hB8 hb9 hback
  have hQg := blk_alloc hBk9 (.cells #[.int .i64 v, .string b] 25)
  have hQx := blk_alloc hBkx9 (.cells #[.int .i64 v, .string b] 25)
  have hQy := blk_alloc hBky9 (.cells #[.int .i64 v, .string b] 25)
  have hQz := blk_new w9 (.cells #[.int .i64 v, .string b] 25)
  have cg0 : (w9.alloc (.cells #[.int .i64 v, .string b] 25)).cell? ⟨g, 0, none⟩ = some (.int .i64 v) := (blk_cell hQg 0).trans rfl
  have cg1 : (w9.alloc (.cells #[.int .i64 v, .string b] 25)).cell? ⟨g, 1, none⟩ = some (.string b) := (blk_cell hQg 1).trans rfl
  have cx0 : (w9.alloc (.cells #[.int .i64 v, .string b] 25)).cell? ⟨gx, 0, none⟩ = some (.int .i64 v) := (blk_cell hQx 0).trans rfl
  have cx1 : (w9.alloc (.cells #[.int .i64 v, .string b] 25)).cell? ⟨gx, 1, none⟩ = some (.string b) := (blk_cell hQx 1).trans rfl
  have cy0 : (w9.alloc (.cells #[.int .i64 v, .string b] 25)).cell? ⟨gy, 0, none⟩ = some (.int .i64 v) := (blk_cell hQy 0).trans rfl
  have cy1 : (w9.alloc (.cells #[.int .i64 v, .string b] 25)).cell? ⟨gy, 1, none⟩ = some (.string b) := (blk_cell hQy 1).trans rfl
  have cz0 : (w9.alloc (.cells #[.int .i64 v, .string b] 25)).cell? ⟨w9.heap.size, 0, none⟩ = some (.int .i64 v) := (blk_cell hQz 0).trans rfl
  have cz1 : (w9.alloc (.cells #[.int .i64 v, .string b] 25)).cell? ⟨w9.heap.size, 1, none⟩ = some (.string b) := (blk_cell hQz 1).trans rfl
  have hvv : (v == v) = true := beq_iff_eq.mpr rfl
  have hbb : (b.toList == b.toList) = true := beq_iff_eq.mpr rfl
  clear H1 H2 H5 H6 H7 H7'
  go_wp2_with fail
  go_ret
  exact ⟨rfl, below_alloc hB9 _⟩
set_option maxHeartbeats 8000000 in
set_option maxRecDepth 100000 in
theorem back_long (k : Nat) (a0 : ByteArray) (w : World) (hT0 : Aside0 (Tabs w)) (h0 : bulletinlaw27_works.f k = some true) (hsz : 1200 < a0.size) :
    Calls Tryd.prog 4 #[.string a0] w fun e w' => e = .returned (.bool true) ∧ Below w.heap.size w w' := by
  go_enter Tryd.func4, Tryd.ntmps4
  go_wp2_with fail
  refine (bulletinlaw27_works.calls k true _ hT0 h0).mono ?_
  rintro e w1 ⟨rfl, hb1⟩
  have hd : decide (1200 < (a0.size : Int)) = true := decide_eq_true (by omega)
  go_wp2
  go_ret
  exact ⟨rfl, hb1⟩
set_option maxHeartbeats 8000000 in
set_option maxRecDepth 100000 in
theorem back_err (k : Nat) (a0 : ByteArray) (n : Int) (w : World) (hT0 : Aside0 (Tabs w)) (h0 : bulletinlaw27_works.f k = some true) (hsz : a0.size ≤ 1200) (hn : n ≠ 0) (h1 : verb_Read.f k a0 = some (0, (⟨#[]⟩ : ByteArray), n)) :
    Calls Tryd.prog 4 #[.string a0] w fun e w' => e = .returned (.bool true) ∧ Below w.heap.size w w' := by
  have hu25 := Tryd.underlying25
  have H1 := Aside0.mk h1
  clear h1
  go_enter Tryd.func4, Tryd.ntmps4
  go_wp2_with fail
  refine (bulletinlaw27_works.calls k true _ hT0 h0).mono ?_
  rintro e w1 ⟨rfl, hb1⟩
  have hT1 := Tabs.a hT0 hb1
  have hd : decide (1200 < (a0.size : Int)) = false := decide_eq_false (by omega)
  go_wp2_with fail
  refine (verb_Read.calls k a0 0 _ n _ hT1 H1.out).mono ?_
  rintro e w2 ⟨rfl, hb2⟩
  have hne : (n != 0) = true := bne_iff_ne.mpr hn
  have hne2 : (n == 0) = false := beq_eq_false_iff_ne.mpr hn
  have hQ := blk_new w2 (.cells #[.int .i64 0, .string ⟨#[]⟩] 25)
  have c0 : (w2.alloc (.cells #[.int .i64 0, .string ⟨#[]⟩] 25)).cell? ⟨w2.heap.size, 0, none⟩ = some (.int .i64 0) := (blk_cell hQ 0).trans rfl
  have c1 : (w2.alloc (.cells #[.int .i64 0, .string ⟨#[]⟩] 25)).cell? ⟨w2.heap.size, 1, none⟩ = some (.string ⟨#[]⟩) := (blk_cell hQ 1).trans rfl
  clear hQ
  go_wp2
  go_ret
  exact ⟨by first | rfl | (simp; done), below_alloc (below_step hb1 hb2) _⟩
/-- all is as the law tells -/
def VB (k : Nat) (a0 : ByteArray) : Prop := bulletinlaw27_works.f k = some true ∧ (1200 < a0.size ∨ (a0.size ≤ 1200 ∧ ((∃ n, n ≠ 0 ∧ verb_Read.f k a0 = some (0, (⟨#[]⟩ : ByteArray), n)) ∨
  ∃ v b s, verb_Read.f k a0 = some (v, b, 0) ∧ verb_Command_Text.f v b = some s ∧ 4 ≤ s.size ∧ s.size ≤ 100000 ∧ verb_Read.f k s = some (v, b, 0) ∧ verb_Read.f k (s ++ (⟨#[32, 32]⟩ : ByteArray)) = some (v, b, 0) ∧ verb_Read.f k (low4 s) = some (v, b, 0))))
end Go.Proofs.YtaamnpomclenpaaDoor.VBack
namespace Go.Proofs.YtaamnpomclenpaaDoor.X
open Go.RowKit Go.Proofs.YtaamnpomclenpaaDoorW.PrintWords Go.Proofs.YtaamnpomclenpaaDoorW.PrintLast Go.Proofs.YtaamnpomclenpaaDoorW.PrintMore
open Classical in
noncomputable def bulletinlaw27_VerbBack.f (k : Nat) (a0 : ByteArray) : Option Bool := if VBack.VB k a0 then some true else none
theorem bulletinlaw27_VerbBack.calls (k : Nat) (a0 : ByteArray) (r : Bool) (w : World) (hT0 : Aside0 (Tabs w)) (h : bulletinlaw27_VerbBack.f k a0 = some r) :
    Calls Tryd.prog 4 #[.string a0] w fun e w' => e = .returned (.bool r) ∧ Below w.heap.size w w' := by
  unfold bulletinlaw27_VerbBack.f at h
  by_cases c : VBack.VB k a0
  · rw [if_pos c] at h
    obtain rfl := Option.some.inj h
    obtain ⟨h0, c1 | ⟨c1, ⟨n, hn, h1⟩ | ⟨v, b, s, h1, h2, h3, h4, h5, h6, h7⟩⟩⟩ := c
    · exact VBack.back_long k a0 w hT0 h0 c1
    · exact VBack.back_err k a0 n w hT0 h0 c1 hn h1
    · exact VBack.back_calls k a0 s b v w hT0 h0 c1 h1 h2 h3 h4 h5 h6 h7
  · rw [if_neg c] at h
    cases h
end Go.Proofs.YtaamnpomclenpaaDoor.X
