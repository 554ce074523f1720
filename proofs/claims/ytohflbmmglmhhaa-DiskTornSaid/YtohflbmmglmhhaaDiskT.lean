/- disk: the reference's land and Flush, walked. -/
import Derived.Test.YtohflbmmglmhhaaDiskS
namespace Go.Proofs.Ytohflbmmglmhhaa.Dk
open Go.RowKit Go.Proofs.Ytohflbmmglmhhaa.Mem Go.Proofs.Ytohflbmmglmhhaa.X Go.Proofs.YtohflbmmglmhhaaW.PrintWords Go.Proofs.YtohflbmmglmhhaaW.PrintLast Go.Proofs.YtohflbmmglmhhaaW.PrintMore Go.Proofs.Ytohflbmmglmhhaa.Aid
set_option linter.unusedVariables false
set_option linter.unusedSimpArgs false
theorem blk_new3 (w : World) (o o' : Obj) (t : TypeId) (cs : Array Value) : Blk (((w.alloc o).alloc o').alloc (.cells cs t)) (w.heap.size + 2) t cs := by
  have := Blk.new ((w.alloc o).alloc o') t cs
  rwa [World.size_alloc, World.size_alloc] at this
theorem below3 (w : World) (o1 o2 o3 : Obj) : Below w.heap.size w (((w.alloc o1).alloc o2).alloc o3) := (below2 w o1 o2).alloc (by simp; omega) _
theorem land_last {w w3 : World} {g off n cap i m : Nat} {cv : Value} {xs ys : List Value} {s1 l a o f u i' s : Value} (c1 : Blk w3 w.heap.size 32 #[s1, l, cv, a, o, f, u]) (c2 : Blk w3 (w.heap.size + 1) 41 #[i', s]) (c3 : Blk w3 (w.heap.size + 2) 32 zero7)
    (hs : Sl w3 9 1 (.slice (some ⟨g, off, none⟩) n cap) n xs) (hi : i < n) (hc : Sl w3 41 2 cv m ys) (hcv : ∀ k, own cv k → k < w.heap.size) (hg : w.heap.size + 3 ≤ g) (hbw : Below w.heap.size w w3) :
    let v := Value.slice (some ⟨g, off, none⟩) n cap
    let W4 := w3.setCell ⟨w.heap.size, 1, none⟩ v
    let W5 := W4.setCell ⟨g, off + i, none⟩ s
    let W6 := W5.setCells (w.heap.size + 2) 0 [s1, v, cv, a, o, f, u]
    (Blk W4 w.heap.size 32 #[s1, v, cv, a, o, f, u] ∧ Blk W4 (w.heap.size + 1) 41 #[i', s] ∧ W4.cell? ⟨g, off + i, none⟩ = xs[i]? ∧ W4.frozen? ⟨g, off + i, none⟩ = false) ∧
    (Blk W5 w.heap.size 32 #[s1, v, cv, a, o, f, u] ∧ Blk W5 (w.heap.size + 2) 32 zero7) ∧
    Blk W6 (w.heap.size + 2) 32 #[s1, v, cv, a, o, f, u] ∧ Sl W6 9 1 v n (xs.set i s) ∧ Sl W6 41 2 cv m ys ∧ Below w.heap.size w W6 := by
  intro v W4 W5 W6
  have d1 : Blk W4 w.heap.size 32 #[s1, v, cv, a, o, f, u] := c1.set_ 1 v
  have d2 : Blk W4 (w.heap.size + 1) 41 #[i', s] := c2.far (p := ⟨w.heap.size, 1, none⟩) (by show w.heap.size + 1 ≠ w.heap.size; omega) v
  have d3 : Blk W4 (w.heap.size + 2) 32 zero7 := c3.far (p := ⟨w.heap.size, 1, none⟩) (by show w.heap.size + 2 ≠ w.heap.size; omega) v
  have hs4 : Sl W4 9 1 v n xs := hs.far (p := ⟨w.heap.size, 1, none⟩) (hs.type_ne c1 (by decide)) v
  have hc4 : Sl W4 41 2 cv m ys := hc.far (p := ⟨w.heap.size, 1, none⟩) (hc.type_ne c1 (by decide)) v
  have hb4 : Below w.heap.size w W4 := hbw.setCell (p := ⟨w.heap.size, 1, none⟩) (Nat.le_refl _) v
  have e1 : Blk W5 w.heap.size 32 #[s1, v, cv, a, o, f, u] := d1.far (p := ⟨g, off + i, none⟩) (by show w.heap.size ≠ g; omega) s
  have e3 : Blk W5 (w.heap.size + 2) 32 zero7 := d3.far (p := ⟨g, off + i, none⟩) (by show w.heap.size + 2 ≠ g; omega) s
  have hs5 : Sl W5 9 1 v n (xs.set i s) := hs4.set_ rfl (by omega) s
  have hc5 : Sl W5 41 2 cv m ys := hc4.far (p := ⟨g, off + i, none⟩) (fun e => by have := hcv g e; omega) s
  have hb5 : Below w.heap.size w W5 := hb4.setCell (p := ⟨g, off + i, none⟩) (by show w.heap.size ≤ g; omega) s
  refine ⟨⟨d1, d2, hs4.cell rfl (by omega), hs4.frozen rfl _⟩, ⟨e1, e3⟩, blk_whole e3 (cs := #[s1, v, cv, a, o, f, u]) rfl, hs5.keep fun k hk => setCells_heap_ne _ _ _ _ _ (fun e => hs5.type_ne e3 (by decide) (e ▸ hk)), hc5.keep fun k hk => setCells_heap_ne _ _ _ _ _ (fun e => hc5.type_ne e3 (by decide) (e ▸ hk)), below_cells hb5 (by omega)⟩
set_option maxHeartbeats 4000000 in
set_option maxRecDepth 100000 in
theorem rland_calls (w : World) (lv cv : Value) (d : D) (h : RD w lv cv d) (i : Nat) (s : ByteArray) (hi : i < d.l.length) (hn : d.l.length ≤ 4096) :
    Calls Try.prog 39 #[.agg (dcells d lv cv), .agg #[.int .i64 (i : Int), .string s]] w fun e w' => ∃ lv', e = .returned (.agg (dcells { d with l := d.l.set i s } lv' cv)) ∧ RD w' lv' cv { d with l := d.l.set i s } ∧ Below w.heap.size w w' ∧ (∀ k, own lv' k → w.heap.size ≤ k) := by
  obtain ⟨ds, dl, dc, left, off, full, ops⟩ := d
  simp only at hi hn
  obtain ⟨A, cap, rfl, _⟩ := h.secs.form
  obtain ⟨A1, cap1, rfl, _⟩ := h.cach.form
  have HRD := Lib.hid h
  obtain ⟨i0, hi0, hz0, hz1, hz2⟩ := info_parts info_rs
  have HI := Lib.hid (And.intro hi0 (And.intro hz0 (And.intro hz1 hz2)))
  have one : ∀ u ∈ dl.map Value.string, u.oneCell' = true := fun u hu => by
    obtain ⟨x, _, rfl⟩ := List.mem_map.1 hu
    rfl
  have hnil : ∀ W : World, Sl (W.alloc (.cells #[] 9)) 9 1 (.slice (some ⟨W.heap.size, 0, none⟩) 0 0) 0 [] := fun W => Sl.of_blk (size := 1) (n := 0) (Blk.new W 9 #[]) (Nat.le_refl 0) (by unfold maxLen; omega) (by simp)
  clear h hi0 hz0 hz1 hz2
  rw [dcells_mk]
  go_enter Try.func39, Try.ntmps39
  have h1 := ((Blk.new w 32 #[.int .i64 (ds : Int), .slice A dl.length cap, .slice A1 dc.length cap1, .int .i64 (left : Int), .bool off, .bool full, .int .i64 (ops : Int)]).alloc (.cells #[.int .i64 (i : Int), .string s] 41)).alloc (.cells zero7 32)
  have h2 := (blk_new2 w (.cells #[.int .i64 (ds : Int), .slice A dl.length cap, .slice A1 dc.length cap1, .int .i64 (left : Int), .bool off, .bool full, .int .i64 (ops : Int)] 32) 41 #[.int .i64 (i : Int), .string s]).alloc (.cells zero7 32)
  have h3 := blk_new3 w (.cells #[.int .i64 (ds : Int), .slice A dl.length cap, .slice A1 dc.length cap1, .int .i64 (left : Int), .bool off, .bool full, .int .i64 (ops : Int)] 32) (.cells #[.int .i64 (i : Int), .string s] 41) 32 zero7
  have hb := below3 w (.cells #[.int .i64 (ds : Int), .slice A dl.length cap, .slice A1 dc.length cap1, .int .i64 (left : Int), .bool off, .bool full, .int .i64 (ops : Int)] 32) (.cells #[.int .i64 (i : Int), .string s] 41) (.cells zero7 32)
  have hsz : (((w.alloc (.cells #[.int .i64 (ds : Int), .slice A dl.length cap, .slice A1 dc.length cap1, .int .i64 (left : Int), .bool off, .bool full, .int .i64 (ops : Int)] 32)).alloc (.cells #[.int .i64 (i : Int), .string s] 41)).alloc (.cells zero7 32)).heap.size = w.heap.size + 3 := by simp
  have HN := Lib.hid (hnil (((w.alloc (.cells #[.int .i64 (ds : Int), .slice A dl.length cap, .slice A1 dc.length cap1, .int .i64 (left : Int), .bool off, .bool full, .int .i64 (ops : Int)] 32)).alloc (.cells #[.int .i64 (i : Int), .string s] 41)).alloc (.cells zero7 32)))
  rw [hsz] at HN
  have HSRC := Lib.hid ((((HRD.out.secs.below hb).alloc (.cells #[] 9)).src (P := Try.prog) Try.underlying29) one)
  have H := Lib.hid (And.intro h1 (And.intro h2 (And.intro h3 (And.intro hb hsz))))
  clear h1 h2 h3 hb hsz one hnil
  go_wp2_with (at_builtin; go_loud (refine wpList_append_sl rfl _ _ 29 29 rfl 9 i0 _ 1 16 Try.underlying29 HI.out.1 HI.out.2.1 HI.out.2.2.1 HI.out.2.2.2 rfl _ _ _ rfl HN.out _ _ _ rfl HSRC.out ?c1 ?c2 ?_))
  case c1 => unfold maxLen; omega
  case c2 => omega
  intro A' cap' w3 hs3 ho3 hw3
  try simp only [Nat.zero_add, List.nil_append] at hs3
  try simp only [Nat.zero_add, List.nil_append] at hw3
  try simp only [Nat.zero_add, List.nil_append]
  obtain ⟨h1, h2, h3, hb, hsz⟩ := H.out
  have hsd := HN.out
  have k1 := ho3.blk (h1.alloc _) (hsd.type_ne (h1.alloc _) (by decide))
  have k2 := ho3.blk (h2.alloc _) (hsd.type_ne (h2.alloc _) (by decide))
  have k3 := ho3.blk (h3.alloc _) (hsd.type_ne (h3.alloc _) (by decide))
  have hb3 : Below w.heap.size w w3 := Only.below_mine ho3 (fun k hk => by
    have : w.heap.size + 3 = k := by simpa [own, Value.ownBlock] using hk
    omega) (by simp; omega) (hb.alloc (by rw [hsz]; omega) _)
  have hc3 := HRD.out.cach.below hb3
  obtain ⟨g, o', cp, cur, hv, _⟩ := hs3.form_pos (by omega)
  injection hv with q1 q2 q3
  subst q1 q3
  have hg : w.heap.size + 3 ≤ g := by
    rcases hw3 g rfl with e | e
    · have : w.heap.size + 3 = g := by simpa [own, Value.ownBlock] using e
      omega
    · omega
  obtain ⟨⟨d1, d2, d3, d4⟩, ⟨e1, e3⟩, f1, f2, f3, f4⟩ := land_last k1 k2 k3 hs3 hi hc3 (fun k hk => HRD.out.cach.lt hk) hg hb3
  have d3' := d3.trans (by rw [List.getElem?_map, List.getElem?_eq_getElem hi]; rfl : _ = some (Value.string dl[i]))
  have fr := k1.frozen 1
  obtain ⟨z0, z1, z2, z3, z4, z5, z6⟩ := blk7 k1
  obtain ⟨y0, y1, y2, y3, y4, y5, y6⟩ := blk7 d1
  have m0 : _ = some (Value.int .i64 (i : Int)) := (d2.cell 0).trans rfl
  have m1 : _ = some (Value.string s) := (d2.cell 1).trans rfl
  obtain ⟨x0, x1, x2, x3, x4, x5, x6⟩ := blk7 e1
  obtain ⟨t0, t1, t2, t3, t4, t5, t6⟩ := blk7 e3
  have r0 := e3.frozen 0
  have r1 := e3.frozen 1
  have r2 := e3.frozen 2
  have r3 := e3.frozen 3
  have r4 := e3.frozen 4
  have r5 := e3.frozen 5
  have r6 := e3.frozen 6
  have F1 := Lib.hid f1
  have F2 := Lib.hid f2
  have F3 := Lib.hid f3
  have F4 := Lib.hid f4
  have HG := Lib.hid hg
  have hil : (i : Int) < (dl.length : Int) := by omega
  clear f1 f2 f3 f4 d1 d2 d3 e1 e3 k1 k2 k3 h1 h2 h3 hb hsz hsd ho3 hw3 hs3 hb3 hc3 H HN HSRC hg z0 z2 z3 z4 z5 z6 y0 y2 y3 y4 y5 y6
  go_wp2
  refine bodyPost_ret (results_single rfl (.cell _ 32 _ (0, 0) _ rfl F1.out Try.underlying32 rfl info_d .nil)) rfl ⟨_, rfl, ⟨?_, F3.out⟩, F4.out, fun k hk => ?_⟩
  · show Sl _ _ 1 _ (dl.set i s).length ((dl.set i s).map Value.string)
    rw [List.length_set, List.map_set]
    exact F2.out
  · have : g = k := by simpa [own, Value.ownBlock] using hk
    have := HG.out
    omega
theorem RD.cells {w : World} {g : Nat} {lv cv : Value} {d : D} {cs : Array Value} (h : RD w lv cv d) (hb : Blk w g 32 cs) (vs : List Value) (o : Nat) : RD (w.setCells g o vs) lv cv d :=
  ⟨h.secs.keep fun k hk => setCells_heap_ne _ _ _ _ _ (fun e => h.secs.type_ne hb (by decide) (e ▸ hk)), h.cach.keep fun k hk => setCells_heap_ne _ _ _ _ _ (fun e => h.cach.type_ne hb (by decide) (e ▸ hk))⟩
set_option maxHeartbeats 4000000 in
set_option maxRecDepth 100000 in
theorem rflush_calls (w : World) (lv cv : Value) (d : D) (h : RD w lv cv d) (hf : Fine d) (ho : d.ops ≤ 1000000000) (hc : d.cache.length ≤ 1000000000) :
    Calls Try.prog 22 #[.agg (dcells d lv cv)] w fun e w' => ∃ lv' cv', e = .returned (.tuple #[.agg (dcells (flush d).1 lv' cv'), .int .i64 (flush d).2]) ∧ RD w' lv' cv' (flush d).1 ∧ Below w.heap.size w w' ∧ (∀ k, own lv' k → own lv k ∨ w.heap.size ≤ k) ∧ (∀ k, own cv' k → own cv k ∨ w.heap.size ≤ k) := by
  have hop := fun W => rop_calls W lv cv d
  obtain ⟨ds, dl, dc, left, off, full, ops⟩ := d
  have hl := hf.left
  have hn := hf.len
  have hwat := hf.wat
  simp only at hl ho hc hn hwat
  obtain ⟨A, cap, rfl, _⟩ := h.secs.form
  obtain ⟨A1, cap1, rfl, _⟩ := h.cach.form
  have HRD := Lib.hid h
  have HOP := Lib.hid hop
  have HWA := Lib.hid hwat
  clear h hop hwat hf
  rw [dcells_mk]
  go_enter Try.func22, Try.ntmps22
  cases off with
  | true =>
    have HP := Lib.hid (show flush ⟨ds, dl, dc, left, true, full, ops⟩ = (⟨ds, dl, dc, left, true, full, ops⟩, 80) by unfold flush; rfl)
    go_wp2
    refine bodyPost_ret (results_ct rfl _ _ _ 32 _ (0, 0) _ rfl (blk_new2 w _ _ _) Try.underlying32 rfl info_d) rfl ⟨_, _, ?_, by rw [HP.out]; exact HRD.out.below (below2 _ _ _), below2 _ _ _, fun k hk => .inl hk, fun k hk => .inl hk⟩
    rw [HP.out]; rfl
  | false =>
    have hp : flush ⟨ds, dl, dc, left, false, full, ops⟩ = if (oper ⟨ds, dl, dc, left, false, full, ops⟩).2 then ((oper ⟨ds, dl, dc, left, false, full, ops⟩).1, 80) else ({ (oper ⟨ds, dl, dc, left, false, full, ops⟩).1 with l := lands dl dc, cache := [] }, 0) := by
      unfold flush
      rw [if_neg (by simp)]
    have HP := Lib.hid hp
    have hT4 := oper_there ⟨ds, dl, dc, left, false, full, ops⟩
    have hop := fun W hW => HOP.out W hW hl ho rfl
    clear hp HOP
    obtain ⟨⟨⟨s1, l1, q1, left1, off1, full1, ops1⟩, goes⟩, hd1⟩ : ∃ x, oper ⟨ds, dl, dc, left, false, full, ops⟩ = x := ⟨_, rfl⟩
    simp only [hd1] at HP hop hT4
    obtain ⟨rfl, rfl, rfl, rfl⟩ := hT4
    simp only [dcells_mk] at hop
    clear hd1
    go_wp2_with fail
    refine (hop _ (HRD.out.below (below2 _ _ _))).mono ?_
    rintro e w1 ⟨rfl, hb1⟩
    have hB3 := ((Blk.new w 32 #[.int .i64 (s1 : Int), .slice A l1.length cap, .slice A1 q1.length cap1, .int .i64 (left : Int), .bool false, .bool full1, .int .i64 (ops : Int)]).alloc (.cells zero7 32)).below hb1
    have hB6 := (blk_new2 w (.cells #[.int .i64 (s1 : Int), .slice A l1.length cap, .slice A1 q1.length cap1, .int .i64 (left : Int), .bool false, .bool full1, .int .i64 (ops : Int)] 32) 32 zero7).below hb1
    have hbw : Below w.heap.size w w1 := (below2 w _ _).trans (hb1.mono (by simp; omega))
    have hRD1 := HRD.out.below hbw
    have hq : w.heap.size + 1 < w1.heap.size := hB6.lt
    clear hop hb1
    have e3 := hB3.alloc (.cells #[.int .i64 (s1 : Int), .slice A l1.length cap, .slice A1 q1.length cap1, .int .i64 (left1 : Int), .bool off1, .bool full1, .int .i64 (ops1 : Int)] 32)
    have e6 := hB6.alloc (.cells #[.int .i64 (s1 : Int), .slice A l1.length cap, .slice A1 q1.length cap1, .int .i64 (left1 : Int), .bool off1, .bool full1, .int .i64 (ops1 : Int)] 32)
    have e8 := Blk.new w1 32 #[.int .i64 (s1 : Int), .slice A l1.length cap, .slice A1 q1.length cap1, .int .i64 (left1 : Int), .bool off1, .bool full1, .int .i64 (ops1 : Int)]
    have eRD := hRD1.alloc (.cells #[.int .i64 (s1 : Int), .slice A l1.length cap, .slice A1 q1.length cap1, .int .i64 (left1 : Int), .bool off1, .bool full1, .int .i64 (ops1 : Int)] 32)
    have ebw := hbw.alloc (by have := hbw.size; omega) (.cells #[.int .i64 (s1 : Int), .slice A l1.length cap, .slice A1 q1.length cap1, .int .i64 (left1 : Int), .bool off1, .bool full1, .int .i64 (ops1 : Int)] 32)
    clear hB3 hB6 hbw hRD1
    cases goes with
    | true =>
      have HP2 := Lib.hid (HP.out.trans (if_pos rfl))
      have HB := Lib.hid (blk_whole e6 (cs := #[.int .i64 (s1 : Int), .slice A l1.length cap, .slice A1 q1.length cap1, .int .i64 (left1 : Int), .bool off1, .bool full1, .int .i64 (ops1 : Int)]) rfl)
      have HBB := Lib.hid (below_cells (o := 0) (vs := (#[.int .i64 (s1 : Int), .slice A l1.length cap, .slice A1 q1.length cap1, .int .i64 (left1 : Int), .bool off1, .bool full1, .int .i64 (ops1 : Int)] : Array Value).toList) ebw (show w.heap.size ≤ w.heap.size + 1 by omega))
      obtain ⟨y0, y1, y2, y3, y4, y5, y6⟩ := blk7 e6
      have f0 := e6.frozen 0
      have f1 := e6.frozen 1
      have f2 := e6.frozen 2
      have f3 := e6.frozen 3
      have f4 := e6.frozen 4
      have f5 := e6.frozen 5
      have f6 := e6.frozen 6
      clear e3 e6 e8 eRD ebw hq HP
      go_wp2
      refine bodyPost_ret (results_ct rfl _ _ _ 32 _ (0, 0) _ rfl HB.out Try.underlying32 rfl info_d) rfl ⟨_, _, ?_, by rw [HP2.out]; exact (HRD.out.below HBB.out).same rfl rfl, HBB.out, fun k hk => .inl hk, fun k hk => .inl hk⟩
      rw [HP2.out]; rfl
    | false =>
      have HP2 := Lib.hid (HP.out.trans (if_neg (by simp)))
      clear HP
      go_wp2
      go_loopw [6] (fun i wr => ∃ k : Nat, ∃ lvk : Value, k ≤ q1.length ∧ i = .int .i64 k ∧ Blk wr w.heap.size 32 #[.int .i64 (s1 : Int), .slice A l1.length cap, .slice A1 q1.length cap1, .int .i64 (left : Int), .bool false, .bool full1, .int .i64 (ops : Int)] ∧ Blk wr (w.heap.size + 1) 32 zero7 ∧
        Blk wr w1.heap.size 32 #[.int .i64 (s1 : Int), lvk, .slice A1 q1.length cap1, .int .i64 (left1 : Int), .bool off1, .bool full1, .int .i64 (ops1 : Int)] ∧ RD wr lvk (.slice A1 q1.length cap1) ⟨s1, lands l1 (q1.take k), q1, left1, off1, full1, ops1⟩ ∧ Below w.heap.size w wr ∧ w1.heap.size < wr.heap.size ∧ (∀ j, own lvk j → own (.slice A l1.length cap) j ∨ w.heap.size ≤ j)) (fun i _ => q1.length - (intOf i).toNat)
      case atStart => exact ⟨0, _, Nat.zero_le _, rfl, e3, e6, e8, eRD.same rfl rfl, ebw, e8.lt, fun j hj => .inl hj⟩
      case round =>
        clear e3 e6 e8 eRD ebw
        obtain ⟨k, lvk, hk, rfl, b1, b2, b3, hR, hb, hlt1, hown⟩ := hrel
        have hll := lands_len (q1.take k) l1
        obtain ⟨AL, capL, hlv, _⟩ := hR.secs.form
        simp only at hlv
        rw [hll] at hlv
        have HLL := Lib.hid hll
        clear hll
        by_cases hlt : k < q1.length
        · obtain ⟨g1, o1, hA1, y1, y2⟩ := wr_at hR.cach hlt
          subst hA1
          have hat := (HWA.out _ (List.getElem_mem hlt)).1
          have hnext := lands_snoc l1 (q1.take k) q1[k]
          rw [← List.take_succ_eq_append_getElem hlt] at hnext
          obtain ⟨⟨a, s⟩, has⟩ : ∃ x, q1[k] = x := ⟨_, rfl⟩
          rw [has] at y1 y2 hat hnext
          try simp only at y1 y2 hat hnext
          clear has
          have hki : (k : Int) < (q1.length : Int) := by omega
          subst hlv
          obtain ⟨x0, x1, x2, x3, x4, x5, x6⟩ := blk7 b1
          obtain ⟨z0, z1, z2, z3, z4, z5, z6⟩ := blk7 b3
          have H := Lib.hid (And.intro b1 (And.intro b2 (And.intro b3 (And.intro hR (And.intro hb (And.intro hlt1 hown))))))
          clear b1 b2 b3 hR hb hlt1 hown x0 x1 x3 x4 x5 x6
          go_wp2
          go_still_tail 6, (by kernel_rfl)
          change wpList _ _ _ _ _ wr.drew
          obtain ⟨b1, b2, b3, hR, hb, hlt1, hown⟩ := H.out
          have c1 := b1.drew
          have c2 := b2.drew
          have c3 := b3.drew
          have cR := hR.drew
          have cb := hb.drew
          have clt : w1.heap.size < wr.drew.heap.size := hlt1
          clear b1 b2 b3 hR hb hlt1 H y1 y2 z0 z1 z2 z3 z4 z5 z6 x2
          generalize wr.drew = w4 at c1 c2 c3 cR cb clt ⊢
          have hcall := rland_calls w4 _ _ _ cR a s (by rw [HLL.out]; exact hat) (by rw [HLL.out]; exact hn)
          simp only [dcells_mk] at hcall
          go_wp2_with fail
          refine hcall.mono ?_
          rintro e w5 ⟨lv', rfl, hR5, hb5, ho5⟩
          obtain ⟨AL', capL', hlv', _⟩ := hR5.secs.form
          simp only [List.length_set] at hlv'
          rw [HLL.out] at hlv'
          subst hlv'
          have k1 := c1.below hb5
          have k2 := c2.below hb5
          have k3 := c3.below hb5
          have kb := cb.trans (hb5.mono cb.size)
          have kS := hb5.size
          have n1 := blk_whole_far k1 (g' := w1.heap.size) (by omega) [.int .i64 (s1 : Int), (.slice AL' l1.length capL'), .slice (some ⟨g1, o1, none⟩) q1.length cap1, .int .i64 (left1 : Int), .bool off1, .bool full1, .int .i64 (ops1 : Int)] 0
          have n2 := blk_whole_far k2 (g' := w1.heap.size) (by omega) [.int .i64 (s1 : Int), (.slice AL' l1.length capL'), .slice (some ⟨g1, o1, none⟩) q1.length cap1, .int .i64 (left1 : Int), .bool off1, .bool full1, .int .i64 (ops1 : Int)] 0
          have n3 := blk_whole k3 (cs := #[.int .i64 (s1 : Int), (.slice AL' l1.length capL'), .slice (some ⟨g1, o1, none⟩) q1.length cap1, .int .i64 (left1 : Int), .bool off1, .bool full1, .int .i64 (ops1 : Int)]) rfl
          have nR := RD.cells hR5 k3 [.int .i64 (s1 : Int), (.slice AL' l1.length capL'), .slice (some ⟨g1, o1, none⟩) q1.length cap1, .int .i64 (left1 : Int), .bool off1, .bool full1, .int .i64 (ops1 : Int)] 0
          have nb := below_cells (o := 0) (vs := [.int .i64 (s1 : Int), (.slice AL' l1.length capL'), .slice (some ⟨g1, o1, none⟩) q1.length cap1, .int .i64 (left1 : Int), .bool off1, .bool full1, .int .i64 (ops1 : Int)]) kb (show w.heap.size ≤ w1.heap.size by omega)
          rw [← hnext] at nR
          have ns : w1.heap.size < (w5.setCells w1.heap.size 0 [.int .i64 (s1 : Int), (.slice AL' l1.length capL'), .slice (some ⟨g1, o1, none⟩) q1.length cap1, .int .i64 (left1 : Int), .bool off1, .bool full1, .int .i64 (ops1 : Int)]).heap.size := by rw [setCells_size]; omega
          have no : ∀ j, own (.slice AL' l1.length capL') j → own (.slice A l1.length cap) j ∨ w.heap.size ≤ j := fun j hj => .inr (by have := ho5 j hj; have := cb.size; omega)
          obtain ⟨z0, z1, z2, z3, z4, z5, z6⟩ := blk7 k3
          have f0 := k3.frozen 0
          have f1 := k3.frozen 1
          have f2 := k3.frozen 2
          have f3 := k3.frozen 3
          have f4 := k3.frozen 4
          have f5 := k3.frozen 5
          have f6 := k3.frozen 6
          have H := Lib.hid (And.intro n1 (And.intro n2 (And.intro n3 (And.intro nR (And.intro nb (And.intro ns no))))))
          clear n1 n2 n3 nR nb ns no k1 k2 k3 kb kS c1 c2 c3 cR cb clt hR5 hb5 ho5 hcall hnext hown hat
          go_wp2
          go_roundw
          case rel => exact ⟨k + 1, (.slice AL' l1.length capL'), by omega, by go_num, H.out.1, H.out.2.1, H.out.2.2.1, H.out.2.2.2.1, H.out.2.2.2.2.1, H.out.2.2.2.2.2.1, H.out.2.2.2.2.2.2⟩
          case measure => simp [intOf]; omega
        · have hkl : k = q1.length := by omega
          subst hkl
          rw [List.take_length] at hR
          subst hlv
          have hR0 : RD wr _ (.slice none 0 0) ⟨s1, lands l1 q1, [], left1, off1, full1, ops1⟩ := ⟨hR.secs, Sl.nil _ _ _⟩
          have x2 : wr.cell? ⟨w1.heap.size, 2, none⟩ = some (.slice A1 q1.length cap1) := (b3.cell 2).trans rfl
          have x3 : wr.cell? ⟨w.heap.size, 2, none⟩ = some (.slice A1 q1.length cap1) := (b1.cell 2).trans rfl
          have g2 := b3.frozen 2
          obtain ⟨d8, d6, hB, hRf, hBl⟩ := put_last b3 b2 hq hR0 hb
          obtain ⟨z0, z1, z2, z3, z4, z5, z6⟩ := blk7 d8
          obtain ⟨y0, y1, y2, y3, y4, y5, y6⟩ := blk7 d6
          have f0 := d6.frozen 0
          have f1 := d6.frozen 1
          have f2 := d6.frozen 2
          have f3 := d6.frozen 3
          have f4 := d6.frozen 4
          have f5 := d6.frozen 5
          have f6 := d6.frozen 6
          have HB := Lib.hid hB
          have HR := Lib.hid hRf
          have HBL := Lib.hid hBl
          have HO := Lib.hid hown
          clear b1 b2 b3 hR hb hlt1 hown hR0 d8 d6 hB hRf hBl
          go_wp2
          refine bodyPost_ret (results_ct rfl _ _ _ 32 _ (0, 0) _ rfl HB.out Try.underlying32 rfl info_d) rfl ⟨_, _, ?_, by rw [HP2.out]; exact HR.out, HBL.out, HO.out, fun k hk => by cases hk⟩
          rw [HP2.out]; rfl
end Go.Proofs.Ytohflbmmglmhhaa.Dk
