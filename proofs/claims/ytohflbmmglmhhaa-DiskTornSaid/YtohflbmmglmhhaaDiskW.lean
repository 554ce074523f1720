/- disk: the reference's Read and the law's 'sector', walked. -/
import Derived.Test.YtohflbmmglmhhaaDiskV
import Derived.Laws.MakeOwn
namespace Go.Proofs.Ytohflbmmglmhhaa.Dk
open Go.RowKit Go.Proofs.Ytohflbmmglmhhaa.Mem Go.Proofs.Ytohflbmmglmhhaa.X Go.Proofs.YtohflbmmglmhhaaW.PrintWords Go.Proofs.YtohflbmmglmhhaaW.PrintLast Go.Proofs.YtohflbmmglmhhaaW.PrintMore Go.Proofs.Ytohflbmmglmhhaa.Aid
set_option linter.unusedVariables false
set_option linter.unusedSimpArgs false
set_option maxHeartbeats 4000000 in
set_option maxRecDepth 100000 in
theorem rread_calls (w : World) (lv cv : Value) (d : D) (h : RD w lv cv d) (at_ : Int) (hc : d.cache.length ≤ 1000000000) :
    Calls Try.prog 26 #[.agg (dcells d lv cv), .int .i64 at_] w fun e w' => e = .returned (.tuple #[.string (rd d at_).1, .int .i64 (rd d at_).2]) ∧ Below w.heap.size w w' := by
  obtain ⟨ds, dl, dc, left, off, full, ops⟩ := d
  simp only at hc
  obtain ⟨A, cap, rfl, _⟩ := h.secs.form
  obtain ⟨A1, cap1, rfl, _⟩ := h.cach.form
  rw [dcells_mk]
  go_enter Try.func26, Try.ntmps26
  have hb := (Below.refl w.heap.size w).alloc (Nat.le_refl _) (.cells #[.int .i64 (ds : Int), .slice A dl.length cap, .slice A1 dc.length cap1, .int .i64 (left : Int), .bool off, .bool full, .int .i64 (ops : Int)] 32)
  have hB := Blk.new w 32 #[.int .i64 (ds : Int), .slice A dl.length cap, .slice A1 dc.length cap1, .int .i64 (left : Int), .bool off, .bool full, .int .i64 (ops : Int)]
  have hR := h.alloc (.cells #[.int .i64 (ds : Int), .slice A dl.length cap, .slice A1 dc.length cap1, .int .i64 (left : Int), .bool off, .bool full, .int .i64 (ops : Int)] 32)
  clear h
  have HBL := Lib.hid hb
  clear hb
  by_cases hin : at_ < 0 ∨ (dl.length : Int) ≤ at_
  · have HR := Lib.hid (show rd ⟨ds, dl, dc, left, off, full, ops⟩ at_ = (⟨#[]⟩, 1) by unfold rd; rw [if_pos hin])
    clear hR hB
    rcases hin with h1 | h1
    · go_wp2
      go_ret2
      exact ⟨by rw [HR.out]; rfl, HBL.out⟩
    · by_cases h0 : at_ < 0
      · go_wp2
        go_ret2
        exact ⟨by rw [HR.out]; rfl, HBL.out⟩
      · go_wp2
        go_ret2
        exact ⟨by rw [HR.out]; rfl, HBL.out⟩
  · have h0 : ¬ at_ < 0 := fun e => hin (.inl e)
    have h1 : ¬ (dl.length : Int) ≤ at_ := fun e => hin (.inr e)
    obtain ⟨n, rfl⟩ : ∃ n : Nat, at_ = n := ⟨at_.toNat, by omega⟩
    have hn : n < dl.length := by omega
    cases off with
    | true =>
      have HR := Lib.hid (show rd ⟨ds, dl, dc, left, true, full, ops⟩ (n : Int) = (⟨#[]⟩, 80) by unfold rd; rw [if_neg hin]; rfl)
      clear hR hB hin
      go_wp2
      go_ret2
      exact ⟨by rw [HR.out]; rfl, HBL.out⟩
    | false =>
      have HR := Lib.hid (show rd ⟨ds, dl, dc, left, false, full, ops⟩ (n : Int) = (look dc n dl[n], 0) by
        unfold rd
        rw [if_neg hin, if_neg (by simp), Int.toNat_natCast, List.getD_eq_getElem?_getD, List.getElem?_eq_getElem hn, Option.getD_some])
      obtain ⟨g, off, hA, hcs⟩ := sec_at hR.secs hn
      subst hA
      have HS := hR.cach
      clear hin
      obtain ⟨x0, x1, x2, x3, x4, x5, x6⟩ := blk7 hB
      clear hR
      have hnl : (n : Int) < (dl.length : Int) := by omega
      go_wp2
      go_loopw [6, 7] (fun s i wr => wr = w.alloc (.cells #[.int .i64 (ds : Int), .slice (some ⟨g, off, none⟩) dl.length cap, .slice A1 dc.length cap1, .int .i64 (left : Int), .bool false, .bool full, .int .i64 (ops : Int)] 32) ∧ ∃ k : Nat, k ≤ dc.length ∧ i = .int .i64 k ∧ s = .string (look (dc.take k) n dl[n])) (fun _ i _ => dc.length - (intOf i).toNat)
      case atStart => exact ⟨rfl, 0, Nat.zero_le _, rfl, by rw [List.take_zero]; rfl⟩
      case round =>
        obtain ⟨rfl, k, hk, rfl, rfl⟩ := hrel
        by_cases hkl : k < dc.length
        · obtain ⟨g1, o1, hA1, y1, y2⟩ := wr_at HS hkl
          subst hA1
          have hstep : look (dc.take (k + 1)) n dl[n] = if dc[k].1 = n then dc[k].2 else look (dc.take k) n dl[n] := by
            rw [List.take_succ_eq_append_getElem hkl, look_snoc]
          have hki : (k : Int) < (dc.length : Int) := by omega
          by_cases he : dc[k].1 = n
          · rw [if_pos he] at hstep
            have hei : ((dc[k].1 : Int) == (n : Int)) = true := beq_iff_eq.mpr (by omega)
            have HK := Lib.hid hstep
            clear hstep he
            go_wp2
            go_roundw
            case rel => exact ⟨by trivial, k + 1, by omega, by go_num, by rw [HK.out]⟩
            case measure => simp [intOf]; omega
          · rw [if_neg he] at hstep
            have hei : ((dc[k].1 : Int) == (n : Int)) = false := beq_eq_false_iff_ne.mpr (by omega)
            have HK := Lib.hid hstep
            clear hstep
            go_wp2
            go_roundw
            case rel => exact ⟨by trivial, k + 1, by omega, by go_num, by rw [HK.out]⟩
            case measure => simp [intOf]; omega
        · have hkl2 : k = dc.length := by omega
          subst hkl2
          rw [List.take_length]
          go_wp2
          go_ret2
          exact ⟨by rw [HR.out]; rfl, HBL.out⟩
theorem info_u8 : (Try.prog.info? 5).map (fun i => (i.zero, i.size, i.bytes)) = some (some (.int .u8 0), 1, 1) := by kernel_rfl
def bts (l : List UInt8) : List Value := l.map fun c => .int .u8 (c.toNat : Int)
theorem bts_set (l : List UInt8) (i : Nat) (v : Int) (h0 : 0 ≤ v) (h1 : v < 256) : (bts l).set i (.int .u8 v) = bts (l.set i (UInt8.ofNat v.toNat)) := by
  unfold bts
  have h : ((UInt8.ofNat v.toNat).toNat : Int) = v := by rw [UInt8.toNat_ofNat_of_lt' (show v.toNat < 256 by omega)]; omega
  rw [List.map_set]
  show _ = (List.map _ l).set i (Value.int .u8 ((UInt8.ofNat v.toNat).toNat : Int))
  rw [h]
theorem bts_len (l : List UInt8) : (bts l).length = l.length := by simp [bts]
set_option maxHeartbeats 4000000 in
set_option maxRecDepth 100000 in
theorem sector_calls (w : World) (kind at_ n fill : Int) (short is : Bool) (kv : Value) (hkv : kv.oneCell' = true) (z : Nat) (hz0 : 16 ≤ z) (hz : z ≤ 256) :
    Calls Try.prog 20 #[.agg #[.int .i64 kind, .int .i64 at_, .int .i64 n, .int .u8 fill, .bool short, .bool is, kv], .int .i64 (z : Int)] w fun e w' => ∃ s : ByteArray, e = .returned (.string s) ∧ Below w.heap.size w w' := by
  obtain ⟨i0, hi, hz0', hz1, hz2⟩ := info_parts info_u8
  go_enter Try.func20, Try.ntmps20
  have hmk := run_make_sl (P := Try.prog) 53 5 i0 (.int .u8 0) Try.underlying53 hi hz0' .i64 .i64 z (by rw [hz2]; omega) (by omega) (w.alloc (.cells #[.int .i64 kind, .int .i64 at_, .int .i64 n, .int .u8 fill, .bool short, .bool is, kv] 37))
  have hm1 : (madeCells (Value.int .u8 0).cells (z * i0.size)) = madeCells #[Value.int .u8 0] z := by rw [hz1, Nat.mul_one]; rfl
  rw [hm1, World.size_alloc] at hmk
  have b0 := (Blk.new w 37 #[.int .i64 kind, .int .i64 at_, .int .i64 n, .int .u8 fill, .bool short, .bool is, kv]).alloc (.cells (madeCells #[Value.int .u8 0] z) 5)
  have bb := below2 w (.cells #[.int .i64 kind, .int .i64 at_, .int .i64 n, .int .u8 fill, .bool short, .bool is, kv] 37) (.cells (madeCells #[Value.int .u8 0] z) 5)
  have hs : Sl ((w.alloc (.cells #[.int .i64 kind, .int .i64 at_, .int .i64 n, .int .u8 fill, .bool short, .bool is, kv] 37)).alloc (.cells (madeCells #[Value.int .u8 0] z) 5)) 5 1 (.slice (some ⟨w.heap.size + 1, 0, none⟩) z z) z (bts (List.replicate z 0)) := by
    have h1 := Sl.of_blk (e := 5) (size := 1) (n := z) (Blk.new (w.alloc (.cells #[.int .i64 kind, .int .i64 at_, .int .i64 n, .int .u8 fill, .bool short, .bool is, kv] 37)) 5 (madeCells #[Value.int .u8 0] z)) (Nat.le_refl z) (by unfold maxLen; omega) (by rw [madeCells_one]; simp)
    rw [World.size_alloc, madeCells_one] at h1
    rw [madeCells_one]
    have e : List.take (z * 1) (Array.replicate z (Value.int IntKind.u8 0)).toList = bts (List.replicate z 0) := by simp [bts]
    rw [e] at h1
    exact h1
  go_wp2
  go_loopw [11] (fun i wr => ∃ k : Nat, ∃ l : List UInt8, k ≤ z ∧ l.length = z ∧ i = .int .i64 k ∧ Blk wr w.heap.size 37 #[.int .i64 kind, .int .i64 at_, .int .i64 n, .int .u8 fill, .bool short, .bool is, kv] ∧ Sl wr 5 1 (.slice (some ⟨w.heap.size + 1, 0, none⟩) z z) z (bts l) ∧ Below w.heap.size w wr) (fun i _ => z - (intOf i).toNat)
  case atStart => exact ⟨0, _, Nat.zero_le _, List.length_replicate, rfl, b0, hs, bb⟩
  case round =>
    clear b0 bb hs hmk hm1
    obtain ⟨k, l, hk, hl, rfl, b, s, e⟩ := hrel
    obtain ⟨x0, x1, x2, x3, x4, x5, x6⟩ := blk7 b
    by_cases hlt : k < z
    · have hki : (k : Int) < (z : Int) := by omega
      have hrem : Int.tmod (k : Int) 3 = ((k % 3 : Nat) : Int) := by
        rw [Int.tmod_eq_emod_of_nonneg (by omega)]; rfl
      have hc := s.cell rfl (j := k) (by omega)
      have hf := s.frozen rfl (0 + k)
      rw [Nat.zero_add] at hc hf
      have hc2 : wr.cell? ⟨w.heap.size + 1, k, none⟩ = some (.int .u8 ((l[k]'(by omega)).toNat : Int)) := by
        rw [hc]
        unfold bts
        rw [List.getElem?_map, List.getElem?_eq_getElem (by omega)]
        rfl
      have nx : ∀ v : Int, 0 ≤ v → v < 256 → Blk (wr.setCell ⟨w.heap.size + 1, k, none⟩ (.int .u8 v)) w.heap.size 37 #[.int .i64 kind, .int .i64 at_, .int .i64 n, .int .u8 fill, .bool short, .bool is, kv] ∧ Sl (wr.setCell ⟨w.heap.size + 1, k, none⟩ (.int .u8 v)) 5 1 (.slice (some ⟨w.heap.size + 1, 0, none⟩) z z) z (bts (l.set k (UInt8.ofNat v.toNat))) ∧ Below w.heap.size w (wr.setCell ⟨w.heap.size + 1, k, none⟩ (.int .u8 v)) := by
        intro v v0 v1
        have h2 := s.set_ rfl (j := k) (by omega) (.int .u8 v)
        rw [Nat.zero_add, bts_set l k v v0 v1] at h2
        exact ⟨b.far (p := ⟨w.heap.size + 1, k, none⟩) (by show w.heap.size ≠ w.heap.size + 1; omega) _, h2, e.setCell (p := ⟨w.heap.size + 1, k, none⟩) (by show w.heap.size ≤ w.heap.size + 1; omega) _⟩
      have NX := Lib.hid nx
      clear nx hc b s e x0 x1 x2 x4 x5 x6
      go_wp2
      go_roundw
      case rel =>
        have h3 := NX.out ((fill + (k : Int) % 3) % 256) (by omega) (by omega)
        exact ⟨k + 1, _, by omega, by rw [List.length_set]; exact hl, by go_num, h3.1, h3.2.1, h3.2.2⟩
      case measure => simp [intOf]; omega
    · have hkz : z = k := by omega
      subst hkz
      have HE := Lib.hid e
      cases short with
      | true =>
        have hsc := s.cut (k := 1) (by omega)
        rw [if_neg (by omega)] at hsc
        obtain ⟨l1, hl1⟩ : ∃ l1, l.drop 1 = l1 := ⟨_, rfl⟩
        have hll : l1.length = z - 1 := by rw [← hl1, List.length_drop, hl]
        have hstr : Sl wr 5 1 (.slice (some ⟨w.heap.size + 1, 1, none⟩) (z - 1) (z - 1)) l1.length (bts l1) := by
          rw [hll, ← hl1]
          have e : (bts l).drop (1 * 1) = bts (l.drop 1) := by simp [bts]
          rw [← e]
          exact hsc
        rw [← hll] at hstr
        have hcv := Sl.str (P := Try.prog) (src := 53) (dst := 9) hstr Try.underlying53 Try.underlying5 Try.underlying9
        rw [hll] at hcv
        have hz1' : ¬ z = 1 := by omega
        have hz1'' : ¬ z - 1 = 0 := by omega
        clear e s b hstr hsc hl1 hll
        go_wp2
        go_ret
        exact ⟨_, rfl, HE.out⟩
      | false =>
        have hstr := s
        rw [← hl] at hstr
        have hcv := Sl.str (P := Try.prog) (src := 53) (dst := 9) hstr Try.underlying53 Try.underlying5 Try.underlying9
        rw [hl] at hcv
        clear e s b hstr
        go_wp2
        go_ret
        exact ⟨_, rfl, HE.out⟩
end Go.Proofs.Ytohflbmmglmhhaa.Dk
