/- disk: Write, Flush, walked. -/
import Derived.Test.YtohflbmmglmhhaaDiskB
namespace Go.Proofs.Ytohflbmmglmhhaa.Dk
open Go.RowKit Go.Proofs.Ytohflbmmglmhhaa.Mem Go.Proofs.YtohflbmmglmhhaaW.PrintWords Go.Proofs.YtohflbmmglmhhaaW.PrintLast Go.Proofs.YtohflbmmglmhhaaW.PrintMore Go.Proofs.Ytohflbmmglmhhaa.Aid
set_option linter.unusedVariables false
set_option linter.unusedSimpArgs false
theorem info_w : (Try.prog.info? 69).map (fun i => (i.zero, i.size, i.bytes)) = some (some (.agg #[.int .i64 0, .string ⟨#[]⟩]), 2, 24) := by kernel_rfl
theorem wcells_snoc (l : List (Nat × ByteArray)) (a : Nat) (s : ByteArray) : wcells (l ++ [(a, s)]) = wcells l ++ [.int .i64 (a : Int), .string s] := by simp [wcells]
theorem oper_there (d : D) : (oper d).1.l = d.l ∧ (oper d).1.cache = d.cache ∧ (oper d).1.size = d.size ∧ (oper d).1.full = d.full := by
  have := oper_l d
  exact ⟨this.1, this.2.1, this.2.2.1, this.2.2.2.1⟩
set_option maxHeartbeats 4000000 in
set_option maxRecDepth 100000 in
theorem write_calls (w : World) (p : Nat) (F : Nat → Prop) (d : D) (h : PD w p F d) (at_ : Int) (s : ByteArray) (hl : d.left ≤ 9223372036854775807) (ho : d.ops ≤ 1000000000) (hc : d.cache.length ≤ 1000000000) :
    Calls Try.prog 18 #[.pointer (some ⟨p, 0, none⟩), .int .i64 at_, .string s] w fun e w' => e = .returned (.int .i64 (put d at_ s).2) ∧ Post w p F (put d at_ s).1 w' := by
  have ht := there_calls w p F d h at_
  obtain ⟨lv, cv, h'⟩ := h
  obtain ⟨c0, c1, c2, c3, c4, c5, c6⟩ := h'.cells
  go_enter Try.func18, Try.ntmps18
  by_cases hin : 0 ≤ at_ ∧ at_ < d.l.length
  case neg =>
    have hp : put d at_ s = (d, 1) := by unfold put; rw [if_pos (by omega)]
    have HP := Lib.hid hp
    rw [decide_eq_false hin] at ht
    clear hp
    go_wp2_with fail
    refine ht.mono ?_
    rintro e w1 ⟨rfl, hw⟩
    subst hw
    go_wp2
    go_ret
    exact ⟨by rw [HP.out]; rfl, by rw [HP.out]; exact Post.same ⟨lv, cv, h'⟩⟩
  rw [decide_eq_true hin] at ht
  obtain ⟨n, rfl⟩ : ∃ n : Nat, at_ = n := ⟨at_.toNat, by omega⟩
  by_cases hsz : s.size = d.size
  case neg =>
    have hp : put d (n : Int) s = (d, 1) := by unfold put; rw [if_pos (by omega)]
    have HP := Lib.hid hp
    have hne : ((s.size : Int) != (d.size : Int)) = true := bne_iff_ne.mpr (by omega)
    clear hp
    go_wp2_with fail
    refine ht.mono ?_
    rintro e w1 ⟨rfl, hw⟩
    subst hw
    go_wp2
    go_ret
    exact ⟨by rw [HP.out]; rfl, by rw [HP.out]; exact Post.same ⟨lv, cv, h'⟩⟩
  have hne : ((s.size : Int) != (d.size : Int)) = false := by rw [hsz]; simp
  cases hoff : d.off with
  | true =>
    have hp : put d (n : Int) s = (d, 80) := by unfold put; rw [if_neg (by omega), if_pos hoff]
    have HP := Lib.hid hp
    rw [hoff] at c4
    clear hp
    go_wp2_with fail
    refine ht.mono ?_
    rintro e w1 ⟨rfl, hw⟩
    subst hw
    go_wp2
    go_ret
    exact ⟨by rw [HP.out]; rfl, by rw [HP.out]; exact Post.same ⟨lv, cv, h'⟩⟩
  | false =>
  have hp : put d (n : Int) s = if (oper d).2 = false ∧ d.full then ((oper d).1, 81) else ({ (oper d).1 with cache := d.cache ++ [(n, s)] }, if (oper d).2 then 80 else 0) := by
    unfold put
    rw [if_neg (by omega), if_neg (by simp [hoff]), Int.toNat_natCast]
  have HP := Lib.hid hp
  have hop := operates_calls w p F d ⟨lv, cv, h'⟩ hl ho
  have hT4 := oper_there d
  rw [hoff] at c4
  obtain ⟨⟨⟨s1, l1, q1, left1, off1, full1, ops1⟩, goes⟩, hd1⟩ : ∃ x, oper d = x := ⟨_, rfl⟩
  rw [hd1] at HP hop hT4
  simp only at HP hop hT4
  clear hp hd1
  obtain ⟨rfl, rfl, rfl, rfl⟩ := hT4
  go_wp2_with fail
  refine ht.mono ?_
  rintro e w1 ⟨rfl, hw⟩
  subst hw
  go_wp2_with fail
  refine hop.mono ?_
  rintro e w2 ⟨rfl, hpost⟩
  have hpd := hpost.1
  have ho2 := hpost.2.1
  obtain ⟨lv2, cv2, h2⟩ := hpd
  obtain ⟨A2, cap2, rfl, hcl2⟩ := h2.cach.form
  obtain ⟨x0, x1, x2, x3, x4, x5, x6⟩ := h2.cells
  clear c0 c1 c2 c3 c4 c5 c6 ht hop
  by_cases hful : goes = false ∧ d.full = true
  · have HP2 := Lib.hid (HP.out.trans (if_pos hful))
    obtain ⟨hg, hf⟩ := hful
    subst hg
    rw [hf] at x5
    clear HP
    go_wp2
    go_ret
    exact ⟨by rw [HP2.out]; rfl, by rw [HP2.out]; exact hpost.post⟩
  · have HP2 := Lib.hid (HP.out.trans (if_neg hful))
    have hg2 : (d.full && !goes) = false := by
      cases hf : d.full
      · rfl
      · cases hgg : goes
        · exact absurd ⟨hgg, hf⟩ hful
        · rfl
    clear HP hful
    obtain ⟨i0, hi, hz0, hz1, hz2⟩ := info_parts info_w
    have hcl : d.cache.length ≤ 1000000000 := hc
    simp only at x0 x1 x2 x3 x4 x5 x6
    have f2 := h2.frozen 2
    have HD : Hid (∀ (A' : Option Addr) (cap' : Nat) (w3 : World), Sl w3 69 2 (.slice A' (d.cache.length + 1) cap') (d.cache.length + 1) (wcells d.cache ++ [.int .i64 (n : Int), .string s]) →
        Only (own (.slice A2 d.cache.length cap2)) (w2.alloc (.cells #[.int .i64 (n : Int), .string s] 69)) w3 → (∀ k, own (.slice A' (d.cache.length + 1) cap') k → own (.slice A2 d.cache.length cap2) k ∨ k = w2.heap.size + 1) →
        (w3.cell? ⟨p, 2, none⟩ = some (.slice A2 d.cache.length cap2) ∧ w3.frozen? ⟨p, 2, none⟩ = false) ∧ Post w1 p F ⟨d.size, d.l, d.cache ++ [(n, s)], left1, off1, d.full, ops1⟩ (w3.setCell ⟨p, 2, none⟩ (.slice A' (d.cache.length + 1) cap'))) := by
      refine Lib.hid fun A' cap' w3 hs1 ho3 hw3 => ?_
      have hb3 := ho3.blk (h2.blk.alloc _) h2.nc
      have hsec3 := (h2.secs.alloc (.cells #[.int .i64 (n : Int), .string s] 69)).only ho3 fun k k1 k2 => h2.secs.apart h2.cach (by decide) k k1 k2
      have hoF : Only F w1 w3 := (ho2.alloc _).trans (ho3.mono h2.fc)
      refine ⟨⟨(hb3.cell 2).trans rfl, hb3.frozen 2⟩, ⟨lv2, .slice A' (d.cache.length + 1) cap', ?_⟩, hoF.setCell (p := ⟨p, 2, none⟩) (.inl h2.fp) _⟩
      have hn2 : ¬ own lv2 p := h2.nl
      have hn3 : ¬ own (.slice A' (d.cache.length + 1) cap') p := hs1.type_ne hb3 (by decide)
      have hz3 : w3.heap.size ≤ (w3.setCell ⟨p, 2, none⟩ (.slice A' (d.cache.length + 1) cap')).heap.size := by rw [set_size]; exact Nat.le_refl _
      refine ⟨hb3.set_ 2 _, .inl h2.fp, fun k hk => ?_, hsec3.far (p := ⟨p, 2, none⟩) hn2 _, fun k hk => .inl (h2.fl k hk), ?_, fun k hk => ?_⟩
      · exact ext_lt (fun k hk => by have := h2.flt k hk; have := hpost.2.2; omega) (by rw [set_size]; exact hoF.size) k hk
      · have hlen : (d.cache ++ [(n, s)]).length = d.cache.length + 1 := by rw [List.length_append]; rfl
        show Sl _ _ 2 _ (d.cache ++ [(n, s)]).length (wcells (d.cache ++ [(n, s)]))
        rw [hlen, wcells_snoc]
        exact hs1.far (p := ⟨p, 2, none⟩) hn3 _
      · rcases hw3 k hk with h4 | h4
        · exact .inl (h2.fc k h4)
        · have hk3 := hs1.lt hk
          refine .inr ⟨?_, by rw [set_size]; exact hk3⟩
          rw [h4]
          have := hpost.2.2
          omega
    have c2' : (w2.alloc (.cells #[.int .i64 (n : Int), .string s] 69)).cell? ⟨p, 2, none⟩ = some (.slice A2 d.cache.length cap2) := (World.cell?_alloc_old _ _ _ (Nat.ne_of_lt h2.blk.lt)).trans x2
    have HS2 := Lib.hid h2.cach
    have HB := Lib.hid (Blk.new w2 69 #[.int .i64 (n : Int), .string s])
    cases goes
    all_goals cases hf : d.full
    all_goals try (rw [hf] at hg2; cases hg2; done)
    all_goals
      rw [hf] at x5
      clear hg2 h2 h' ho2 hpost
      go_wp2_with (at_builtin; go_loud (refine wpList_append_sl rfl _ _ 54 54 rfl 69 i0 _ 2 24 Try.underlying54 hi hz0 hz1 hz2 rfl _ _ _ rfl (HS2.out.alloc _) _ 1 [.int .i64 (n : Int), .string s] rfl (src_blk HB.out Try.underlying54 1 1 rfl (by simp [Value.oneCell'])) ?c1 ?c2 ?_))
      case c1 => unfold maxLen; omega
      case c2 => omega
      intro A' cap' w3 hs1 ho3 hw3
      obtain ⟨⟨y2, z2⟩, hfin⟩ := HD.out A' cap' w3 hs1 ho3 hw3
      have HF := Lib.hid hfin
      clear hs1 ho3 hw3 hfin HD
      go_wp2
      go_ret
      exact ⟨by rw [HP2.out]; rfl, by rw [HP2.out]; exact HF.out⟩
theorem lands_len (ws : List (Nat × ByteArray)) : ∀ l : List ByteArray, (lands l ws).length = l.length := by
  induction ws with
  | nil => intro l; rfl
  | cons a ws ih => intro l; show (lands (l.set a.1 a.2) ws).length = _; rw [ih]; simp
theorem lands_snoc (l : List ByteArray) (ws : List (Nat × ByteArray)) (a : Nat × ByteArray) : lands l (ws ++ [a]) = (lands l ws).set a.1 a.2 := by simp [lands]
/-- a sector is written -/
theorem Op.sec {w : World} {p : Nat} {F : Nat → Prop} {g off cap m : Nat} {cv : Value} {d : D} (h : Op w p F (.slice (some ⟨g, off, none⟩) m cap) cv d) (hm : d.l.length = m) (i : Nat) (hi : i < m) (s : ByteArray) :
    Op (w.setCell ⟨g, off + i, none⟩ (.string s)) p F (.slice (some ⟨g, off, none⟩) m cap) cv { d with l := d.l.set i s } ∧ Only F w (w.setCell ⟨g, off + i, none⟩ (.string s)) := by
  subst hm
  have hg : F g := h.fl g rfl
  have hgp : p ≠ g := fun e => h.nl (by rw [e]; rfl)
  have hs := h.secs.set_ rfl (j := i) (by omega) (.string s)
  refine ⟨⟨h.blk.far (p := ⟨g, off + i, none⟩) hgp _, h.fp, by simpa [World.setCell] using h.flt, ?_, h.fl, ?_, h.fc⟩, (Only.refl F w).setCell (p := ⟨g, off + i, none⟩) (.inl hg) _⟩
  · show Sl _ _ 1 _ (d.l.set i s).length ((d.l.set i s).map Value.string)
    rw [List.length_set, List.map_set]
    exact hs
  · exact h.cach.far (p := ⟨g, off + i, none⟩) (fun e => h.secs.apart h.cach (by decide) g rfl e) _
theorem Op.drew {w : World} {p : Nat} {F : Nat → Prop} {lv cv : Value} {d : D} (h : Op w p F lv cv d) : Op w.drew p F lv cv d := h.only (Only.drew (Only.refl none_ w)) (fun _ _ e => e)
theorem Op.alloc {w : World} {p : Nat} {F : Nat → Prop} {lv cv : Value} {d : D} (h : Op w p F lv cv d) (o : Obj) : Op (w.alloc o) p F lv cv d := h.only ((Only.refl none_ w).alloc o) (fun _ _ e => e)
set_option maxHeartbeats 4000000 in
set_option maxRecDepth 100000 in
theorem flush_calls (w : World) (p : Nat) (F : Nat → Prop) (d : D) (h : PD w p F d) (hf : Fine d) (ho : d.ops ≤ 1000000000) (hc : d.cache.length ≤ 1000000000) :
    Calls Try.prog 23 #[.pointer (some ⟨p, 0, none⟩)] w fun e w' => e = .returned (.int .i64 (flush d).2) ∧ Post w p F (flush d).1 w' := by
  have hop := operates_calls w p F d h hf.left ho
  obtain ⟨lv, cv, h'⟩ := id h
  obtain ⟨c0, c1, c2, c3, c4, c5, c6⟩ := h'.cells
  go_enter Try.func23, Try.ntmps23
  cases hoff : d.off with
  | true =>
    have hp : flush d = (d, 80) := by unfold flush; rw [if_pos hoff]
    have HP := Lib.hid hp
    rw [hoff] at c4
    clear hp
    go_wp2
    go_ret
    exact ⟨by rw [HP.out]; rfl, by rw [HP.out]; exact Post.same ⟨lv, cv, h'⟩⟩
  | false =>
  have hp : flush d = if (oper d).2 then ((oper d).1, 80) else ({ (oper d).1 with l := lands d.l d.cache, cache := [] }, 0) := by
    unfold flush
    rw [if_neg (by simp [hoff])]
  have HP := Lib.hid hp
  have hT4 := oper_there d
  rw [hoff] at c4
  obtain ⟨⟨⟨s1, l1, q1, left1, off1, full1, ops1⟩, goes⟩, hd1⟩ : ∃ x, oper d = x := ⟨_, rfl⟩
  rw [hd1] at HP hop hT4
  simp only at HP hop hT4
  clear hp hd1
  obtain ⟨rfl, rfl, rfl, rfl⟩ := hT4
  go_wp2_with fail
  refine hop.mono ?_
  rintro e w2 ⟨rfl, hpost⟩
  clear c0 c1 c2 c3 c4 c5 c6 hop h'
  cases goes with
  | true =>
    have HP2 := Lib.hid (HP.out.trans (if_pos rfl))
    clear HP
    go_wp2
    go_ret
    exact ⟨by rw [HP2.out]; rfl, by rw [HP2.out]; exact hpost.post⟩
  | false =>
    have HP2 := Lib.hid (HP.out.trans (if_neg (by simp)))
    clear HP
    obtain ⟨⟨lv2, cv2, h2⟩, ho2, hz2⟩ := hpost
    obtain ⟨A2, cap2, rfl, hcl2⟩ := h2.cach.form
    obtain ⟨x0, x1, x2, x3, x4, x5, x6⟩ := h2.cells
    simp only at x0 x1 x2 x3 x4 x5 x6
    clear x0 x1 x3 x4 x5 x6
    obtain ⟨A3, cap3, hA3, _⟩ := h2.secs.form
    simp only at hA3
    subst hA3
    have hwat := hf.wat
    have HWA := Lib.hid hwat
    have hlen0 := lands_len d.cache d.l
    clear hwat
    go_wp2
    go_loopw [18] (fun i wr => ∃ k : Nat, k ≤ d.cache.length ∧ i = .int .i64 k ∧ Op wr p F (.slice A3 d.l.length cap3) (.slice A2 d.cache.length cap2) ⟨d.size, lands d.l (d.cache.take k), d.cache, left1, off1, d.full, ops1⟩ ∧ Only F w2 wr) (fun i _ => d.cache.length - (intOf i).toNat)
    case atStart => exact ⟨0, Nat.zero_le _, rfl, h2, Only.refl _ _⟩
    case round =>
      clear h2
      obtain ⟨k, hk, rfl, hO, hon⟩ := hrel
      have hll := lands_len (d.cache.take k) d.l
      by_cases hlt : k < d.cache.length
      · obtain ⟨g1, o1, hA1, y1, y2⟩ := wr_at hO.cach hlt
        subst hA1
        obtain ⟨hat, hsz⟩ := HWA.out _ (List.getElem_mem hlt)
        have hnext := lands_snoc d.l (d.cache.take k) d.cache[k]
        rw [← List.take_succ_eq_append_getElem hlt] at hnext
        obtain ⟨⟨a, s⟩, has⟩ : ∃ x, d.cache[k] = x := ⟨_, rfl⟩
        rw [has] at y1 y2 hat hsz hnext
        try simp only at y1 y2 hat hsz hnext
        clear has
        have hO1 := hO.alloc (.cells #[.int .i64 (a : Int), .string s] 69)
        have hN1 := Blk.new wr 69 #[.int .i64 (a : Int), .string s]
        have hon1 := hon.alloc (.cells #[.int .i64 (a : Int), .string s] 69)
        obtain ⟨w3, hw3⟩ : ∃ x, wr.alloc (.cells #[.int .i64 (a : Int), .string s] 69) = x := ⟨_, rfl⟩
        rw [hw3] at hO1 hN1 hon1
        obtain ⟨z0, z1, z2, z3, z4, z5, z6⟩ := hO1.cells
        have n0 : w3.cell? ⟨wr.heap.size, 0, none⟩ = some (.int .i64 (a : Int)) := (hN1.cell 0).trans rfl
        have n1 : w3.cell? ⟨wr.heap.size, 1, none⟩ = some (.string s) := (hN1.cell 1).trans rfl
        have hal : a < (lands d.l (d.cache.take k)).length := by rw [hll]; exact hat
        have hSec := hO1.secs
        rw [hll] at hSec
        obtain ⟨g3, o3, c3, cur3, hv3, _⟩ := hSec.form_pos (by omega)
        injection hv3 with q1 q2 q3
        subst q1
        have hx := hSec.cell rfl (j := a) (by omega)
        have hfx := hSec.frozen rfl (o3 + a)
        have hai : (a : Int) < (d.l.length : Int) := by omega
        have HO1 := Lib.hid hO1
        clear hO hO1 hN1 hon hSec z0 z2 z3 z4 z5 z6
        have hx2 : w3.drew.cell? ⟨g3, o3 + a, none⟩ = some (.string ((lands d.l (d.cache.take k))[a]'hal)) := by
          rw [show w3.drew.cell? ⟨g3, o3 + a, none⟩ = w3.cell? ⟨g3, o3 + a, none⟩ from rfl, hx, List.getElem?_map, List.getElem?_eq_getElem hal]
          rfl
        have hfx2 : w3.drew.frozen? ⟨g3, o3 + a, none⟩ = false := hfx
        obtain ⟨hO4, hon4⟩ := Op.sec HO1.out.drew hll a hat s
        have hon5 := hon1.drew.trans hon4
        have hO5 : Op (w3.drew.setCell ⟨g3, o3 + a, none⟩ (.string s)) p F (.slice (some ⟨g3, o3, none⟩) d.l.length cap3) (.slice (some ⟨g1, o1, none⟩) d.cache.length cap2) ⟨d.size, lands d.l (d.cache.take (k + 1)), d.cache, left1, off1, d.full, ops1⟩ := by
          rw [hnext]
          exact hO4
        have HO5 := Lib.hid hO5
        have HN5 := Lib.hid hon5
        clear hO4 hon4 hO5 hon5 HO1 hnext hx hon1
        go_wp2
        go_still_tail 9, (by kernel_rfl)
        change wpList _ _ _ _ _ w3.drew
        have h5 := HO5.out
        have h6 := HN5.out
        clear HO5 HN5
        generalize w3.drew = w4 at hx2 hfx2 h5 h6 ⊢
        go_wp2
        go_roundw
        case rel => exact ⟨k + 1, by omega, by go_num, h5, h6⟩
        case measure => simp [intOf]; omega
      · have hkl : k = d.cache.length := by omega
        rw [hkl, List.take_length] at hO
        obtain ⟨z0, z1, z2, z3, z4, z5, z6⟩ := hO.cells
        have f2 := hO.frozen 2
        have hnil : Op (wr.setCell ⟨p, 2, none⟩ (.slice none 0 0)) p F (.slice A3 d.l.length cap3) (.slice none 0 0) ⟨d.size, lands d.l d.cache, [], left1, off1, d.full, ops1⟩ := by
          refine ⟨hO.blk.set_ 2 _, hO.fp, by simpa [World.setCell] using hO.flt, hO.secs.far (p := ⟨p, 2, none⟩) hO.nl _, hO.fl, Sl.nil _ _ _, fun k hk => by cases hk⟩
        have hon7 : Only F w (wr.setCell ⟨p, 2, none⟩ (.slice none 0 0)) := (ho2.trans hon).setCell (p := ⟨p, 2, none⟩) (.inl hO.fp) _
        have HN := Lib.hid hnil
        have HO7 := Lib.hid hon7
        clear hO z0 z1 z3 z4 z5 z6 hon7 hnil
        go_wp2
        go_ret
        refine ⟨by rw [HP2.out]; rfl, ?_⟩
        rw [HP2.out]
        exact ⟨⟨_, _, HN.out.mono (fun k hk => .inl hk) (ext_lt h.lt HO7.out.size)⟩, HO7.out⟩
end Go.Proofs.Ytohflbmmglmhhaa.Dk
