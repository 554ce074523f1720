/- crlf: a reader in memory; what 'feed' and 'Feed' do to it. -/
import Derived.Test.YtpolfnckbfdhgaaCrlfA
import Derived.LoopN
import Derived.Deep.RegionLaw
namespace Go.Proofs.Ytpolfnckbfdhgaa.Crlf
open Go.RowKit Go.Proofs.Ytpolfnckbfdhgaa.Mem
set_option linter.unusedVariables false
set_option linter.unusedSimpArgs false
/-- whole lines, the line under way, and whether a CR came behind it -/
abbrev M := List (List UInt8) × List UInt8 × Bool
def fd (m : M) (c : UInt8) : M :=
  if (m.2.2 && c == 10) = true then (m.1 ++ [m.2.1], [], false)
  else if c == 13 then (m.1, (if m.2.2 = true then m.2.1 ++ [13] else m.2.1), true) else (m.1, (if m.2.2 = true then m.2.1 ++ [13] else m.2.1) ++ [c], false)
def lcells (ps : List (Value × List UInt8)) : List Value := ps.flatMap fun p => lnCells p.1 p.2
structure Op (w : World) (b : Nat) (F : Nat → Prop) (vw vt : Value) (ps : List (Value × List UInt8)) (cur : List UInt8) (cr : Bool) : Prop where
  blk : Blk w b 67 #[vw, vt, .int .i64 (cur.length : Int), .bool (bad cur), .bool cr]
  fb : F b
  flt : ∀ k, F k → k < w.heap.size
  kept : Kept w vt cur
  ft : ∀ k, own vt k → F k
  whole : Sl w 65 3 vw ps.length (lcells ps)
  fw : ∀ k, own vw k → F k
  each : ∀ p ∈ ps, Kept w p.1 p.2 ∧ ∀ k, own p.1 k → F k ∧ ¬ own vt k
def Rd (w : World) (b : Nat) (F : Nat → Prop) (m : M) : Prop := ∃ vw vt ps, Op w b F vw vt ps m.2.1 m.2.2 ∧ ps.map (·.2) = m.1
section
variable {w w' : World} {b : Nat} {F F' G : Nat → Prop} {vw vt cr : Value} {ps : List (Value × List UInt8)} {cur : List UInt8} {c : Bool}
theorem Op.mono (h : Op w b F vw vt ps cur c) (h1 : ∀ k, F k → F' k) (h2 : ∀ k, F' k → k < w.heap.size) : Op w b F' vw vt ps cur c :=
  ⟨h.blk, h1 _ h.fb, h2, h.kept, fun k hk => h1 k (h.ft k hk), h.whole, fun k hk => h1 k (h.fw k hk), fun p hp => ⟨(h.each p hp).1, fun k hk => ⟨h1 k ((h.each p hp).2 k hk).1, ((h.each p hp).2 k hk).2⟩⟩⟩
theorem Op.only (h : Op w b F vw vt ps cur c) (ho : Only G w w') (hn : ∀ k, F k → ¬ G k) : Op w' b F vw vt ps cur c :=
  ⟨ho.blk h.blk (hn b h.fb), h.fb, fun k hk => Nat.lt_of_lt_of_le (h.flt k hk) ho.size, h.kept.only ho fun k hk => hn k (h.ft k hk), h.ft, h.whole.only ho fun k hk => hn k (h.fw k hk), h.fw,
    fun p hp => ⟨(h.each p hp).1.only ho fun k hk => hn k ((h.each p hp).2 k hk).1, (h.each p hp).2⟩⟩
theorem Rd.mono {m : M} (h : Rd w b F m) (h1 : ∀ k, F k → F' k) (h2 : ∀ k, F' k → k < w.heap.size) : Rd w b F' m := by
  obtain ⟨vw, vt, ps, h, e⟩ := h
  exact ⟨vw, vt, ps, h.mono h1 h2, e⟩
theorem Rd.only {m : M} (h : Rd w b F m) (ho : Only G w w') (hn : ∀ k, F k → ¬ G k) : Rd w' b F m := by
  obtain ⟨vw, vt, ps, h, e⟩ := h
  exact ⟨vw, vt, ps, h.only ho hn, e⟩
theorem Rd.below {m : M} (h : Rd w b F m) (hb : Below w.heap.size w w') : Rd w' b F m := h.only (Only.of_below hb none_) fun _ _ h => h
theorem Rd.lt {m : M} (h : Rd w b F m) : ∀ k, F k → k < w.heap.size := by
  obtain ⟨vw, vt, ps, h, e⟩ := h
  exact h.flt
theorem Rd.fb {m : M} (h : Rd w b F m) : F b := by
  obtain ⟨vw, vt, ps, h, e⟩ := h
  exact h.fb
theorem Op.grow {l : List UInt8} (h : Op w b F vw vt ps cur c) (g : GrowPost w b vw vt (.bool c) l w') : ∃ vt', Op w' b (ext F w w') vw vt' ps l c ∧ Only F w w' := by
  obtain ⟨vt', hb, hk, ho, hw⟩ := g
  have hF : ∀ k, k = b ∨ own vt k → F k := fun k hk => hk.elim (fun e => e ▸ h.fb) (h.ft k)
  have nw : ∀ k, own vw k → ¬ (k = b ∨ own vt k) := fun k hk e => e.elim (fun e => h.whole.type_ne h.blk (by decide) (e ▸ hk)) (h.whole.apart h.kept (by decide) k hk)
  have np : ∀ p ∈ ps, ∀ k, own p.1 k → ¬ (k = b ∨ own vt k) := fun p hp k hk e => e.elim (fun e => (h.each p hp).1.type_ne h.blk (by decide) (e ▸ hk)) ((h.each p hp).2 k hk).2
  refine ⟨vt', ⟨hb, .inl h.fb, ext_lt h.flt ho.size, hk, fun k hk' => ?_, h.whole.only ho nw, fun k hk => .inl (h.fw k hk), fun p hp => ⟨(h.each p hp).1.only ho (np p hp), fun k hk' => ⟨.inl ((h.each p hp).2 k hk').1, fun e => ?_⟩⟩⟩, ho.mono hF⟩
  · rcases hw k hk' with e | e
    · exact .inl (h.ft k e)
    · exact .inr ⟨e, hk.lt hk'⟩
  · have := ((h.each p hp).2 k hk')
    rcases hw k e with e | e
    · exact this.2 e
    · have := h.flt k this.1
      omega
/-- the CR mark is written -/
theorem Op.mark (h : Op w b F vw vt ps cur c) (d : Bool) : Op (w.setCell ⟨b, 4, none⟩ (.bool d)) b F vw vt ps cur d ∧ Only F w (w.setCell ⟨b, 4, none⟩ (.bool d)) := by
  have nt : ¬ own vt b := h.kept.type_ne h.blk (by decide)
  have nw : ¬ own vw b := h.whole.type_ne h.blk (by decide)
  refine ⟨⟨h.blk.set_ 4 _, h.fb, by simpa [World.setCell] using h.flt, h.kept.far (p := ⟨b, 4, none⟩) nt _, h.ft, h.whole.far (p := ⟨b, 4, none⟩) nw _, h.fw, fun p hp => ⟨(h.each p hp).1.far (p := ⟨b, 4, none⟩) ((h.each p hp).1.type_ne h.blk (by decide)) _, (h.each p hp).2⟩⟩, (Only.refl F w).setCell (p := ⟨b, 4, none⟩) (.inl h.fb) _⟩
end
theorem lcells_snoc (ps : List (Value × List UInt8)) (v : Value) (l : List UInt8) : lcells (ps ++ [(v, l)]) = lcells ps ++ lnCells v l := by simp [lcells]
theorem info_line : (Try.prog.info? 65).map (fun i => (i.zero, i.size, i.bytes)) = some (some (.agg #[.slice none 0 0, .int .i64 0, .bool false]), 3, 40) := by kernel_rfl
def FeedPost (w : World) (b : Nat) (F : Nat → Prop) (m : M) (w' : World) : Prop := Rd w' b (ext F w w') m ∧ Only F w w'
theorem feed_end_post {w w1 : World} {b : Nat} {F : Nat → Prop} {vw vt v' : Value} {ps : List (Value × List UInt8)} {cur : List UInt8} (h : Op w b F vw vt ps cur true) (o : Obj)
    (hs1 : Sl w1 65 3 v' (ps.length + 1) (lcells ps ++ lnCells vt cur)) (ho1 : Only (own vw) (w.drew.alloc o) w1) (hw1 : ∀ k, own v' k → own vw k ∨ k = (w.drew.alloc o).heap.size) :
    FeedPost w b F (ps.map (·.2) ++ [cur], [], false) (((((w1.setCell ⟨b, 0, none⟩ v').setCell ⟨b, 1, none⟩ (.slice none 0 0)).setCell ⟨b, 2, none⟩ (.int .i64 0)).setCell ⟨b, 3, none⟩ (.bool false)).setCell ⟨b, 4, none⟩ (.bool false)) := by
  have nw : ¬ own vw b := h.whole.type_ne h.blk (by decide)
  have ho : Only (own vw) w w1 := ((Only.refl _ w).drew.alloc o).trans ho1
  have hb1 := ho.blk h.blk nw
  have hset : Only (· = b) w1 (((((w1.setCell ⟨b, 0, none⟩ v').setCell ⟨b, 1, none⟩ (.slice none 0 0)).setCell ⟨b, 2, none⟩ (.int .i64 0)).setCell ⟨b, 3, none⟩ (.bool false)).setCell ⟨b, 4, none⟩ (.bool false)) :=
    (((((Only.refl (· = b) w1).setCell (p := ⟨b, 0, none⟩) (.inl rfl) _).setCell (p := ⟨b, 1, none⟩) (.inl rfl) _).setCell (p := ⟨b, 2, none⟩) (.inl rfl) _).setCell (p := ⟨b, 3, none⟩) (.inl rfl) _).setCell (p := ⟨b, 4, none⟩) (.inl rfl) _
  have hall : Only F w (((((w1.setCell ⟨b, 0, none⟩ v').setCell ⟨b, 1, none⟩ (.slice none 0 0)).setCell ⟨b, 2, none⟩ (.int .i64 0)).setCell ⟨b, 3, none⟩ (.bool false)).setCell ⟨b, 4, none⟩ (.bool false)) :=
    (ho.mono h.fw).trans (hset.mono fun k e => e ▸ h.fb)
  obtain ⟨W, hW⟩ : ∃ W, (((((w1.setCell ⟨b, 0, none⟩ v').setCell ⟨b, 1, none⟩ (.slice none 0 0)).setCell ⟨b, 2, none⟩ (.int .i64 0)).setCell ⟨b, 3, none⟩ (.bool false)).setCell ⟨b, 4, none⟩ (.bool false)) = W := ⟨_, rfl⟩
  have hB : Blk W b 67 #[v', .slice none 0 0, .int .i64 0, .bool false, .bool false] := hW ▸ ((((hb1.set_ 0 v').set_ 1 _).set_ 2 _).set_ 3 _).set_ 4 _
  rw [hW] at hset hall ⊢
  have nv' : ∀ k, own v' k → ¬ k = b := fun k hk e => hs1.type_ne hb1 (by decide) (e ▸ hk)
  have old : ∀ {v l}, Kept w v l → Kept W v l := fun {v l} hk => (hk.only ho fun k h1 h2 => h.whole.apart hk (by decide) k h2 h1).only hset fun k h1 e => hk.type_ne h.blk (by decide) (e ▸ h1)
  refine ⟨⟨v', .slice none 0 0, ps ++ [(vt, cur)], ⟨hB, .inl h.fb, ext_lt h.flt hall.size, Sl.nil W _ _, fun k hk => (by cases hk), ?_, fun k hk => ?_, fun p hp => ?_⟩, (by simp)⟩, hall⟩
  · rw [lcells_snoc, List.length_append]
    exact hs1.only hset nv'
  · rcases hw1 k hk with e | e
    · exact .inl (h.fw k e)
    · have := hs1.lt hk
      exact .inr ⟨(by rw [e]; simp), Nat.lt_of_lt_of_le this hset.size⟩
  · rcases List.mem_append.1 hp with hp | hp
    · exact ⟨old (h.each p hp).1, fun k hk => ⟨.inl ((h.each p hp).2 k hk).1, fun e => (by cases e)⟩⟩
    · rw [List.mem_singleton.1 hp]
      exact ⟨old h.kept, fun k hk => ⟨.inl (h.ft k hk), fun e => (by cases e)⟩⟩
set_option maxHeartbeats 1000000 in
set_option maxRecDepth 100000 in
/-- the end of a line -/
theorem feed_end (w : World) (b : Nat) (F : Nat → Prop) (A : Option Addr) (cap : Nat) (vt : Value) (ps : List (Value × List UInt8)) (cur : List UInt8) (h : Op w b F (.slice A ps.length cap) vt ps cur true) (hp : ps.length ≤ 1000000) :
    Calls Try.prog 29 #[.pointer (some ⟨b, 0, none⟩), .int .u8 10] w fun e w' => e = .returned (.tuple #[]) ∧ FeedPost w b F (ps.map (·.2) ++ [cur], [], false) w' := by
  obtain ⟨i0, hi, hz0, hz1, hz2⟩ := info_parts info_line
  have hb := h.blk
  have c0 : w.cell? ⟨b, 0, none⟩ = some (.slice A ps.length cap) := (hb.cell 0).trans rfl
  have c1 : w.cell? ⟨b, 1, none⟩ = some vt := (hb.cell 1).trans rfl
  have c2 : w.cell? ⟨b, 2, none⟩ = some (.int .i64 (cur.length : Int)) := (hb.cell 2).trans rfl
  have c3 : w.cell? ⟨b, 3, none⟩ = some (.bool (bad cur)) := (hb.cell 3).trans rfl
  have c4 : w.cell? ⟨b, 4, none⟩ = some (.bool true) := (hb.cell 4).trans rfl
  go_enter Try.func29, Try.ntmps29
  have nw : ¬ own (.slice A ps.length cap) b := h.whole.type_ne hb (by decide)
  have e0 : (w.alloc (.cells #[vt, .int .i64 (cur.length : Int), .bool (bad cur)] 65)).cell? ⟨b, 0, none⟩ = some (.slice A ps.length cap) := ((hb.alloc _).cell 0).trans rfl
  have hone : ∀ u ∈ (lnCells vt cur).toArray.toList, u.oneCell' = true := by
    obtain ⟨A1, cap1, e, _⟩ := h.kept.form
    rw [e]
    simp [lnCells, Value.oneCell']
  have hsl := (h.whole.drew.alloc (.cells (lnCells vt cur).toArray 65))
  go_wp2_with fail
  go_region_law (refine step_append_sl rfl _ _ 63 63 rfl 65 i0 _ 3 40 Try.underlying63 hi hz0 hz1 hz2 rfl _ _ _ rfl hsl _ 1 (lnCells vt cur) rfl (src_blk (Blk.new w.drew 65 (lnCells vt cur).toArray) Try.underlying63 1 1 rfl hone) (by unfold maxLen; omega) (by omega) ?_; intro A' cap' w1 hs1 ho1 hw1; have hb1 := ho1.blk (hb.drew.alloc _) nw; have d0 : w1.cell? ⟨b, 0, none⟩ = some (.slice A ps.length cap) := (hb1.cell 0).trans rfl; have d1 : w1.cell? ⟨b, 1, none⟩ = some vt := (hb1.cell 1).trans rfl; have d2 : w1.cell? ⟨b, 2, none⟩ = some (.int .i64 (cur.length : Int)) := (hb1.cell 2).trans rfl; have d3 : w1.cell? ⟨b, 3, none⟩ = some (.bool (bad cur)) := (hb1.cell 3).trans rfl; have d4 : w1.cell? ⟨b, 4, none⟩ = some (.bool true) := (hb1.cell 4).trans rfl; have g0 := hb1.frozen 0; have g1 := hb1.frozen 1; have g2 := hb1.frozen 2; have g3 := hb1.frozen 3; have g4 := hb1.frozen 4)
  all_goals
    clear c0 c1 c2 c3 c4 e0
    go_wp2
    refine bodyPost_ret (results_none rfl _ _ _) rfl ?_
    exact ⟨rfl, feed_end_post h _ hs1 ho1 hw1⟩
theorem grow13 (w : World) (b : Nat) (vw vt cr : Value) (l : List UInt8) (hb : Blk w b 67 #[vw, vt, .int .i64 (l.length : Int), .bool (bad l), cr]) (hs : Kept w vt l) (hl : l.length ≤ 1000000) :
    Calls Try.prog 35 #[.pointer (some ⟨b, 1, none⟩), .int .u8 13] w fun e w' => e = .returned (.tuple #[]) ∧ GrowPost w b vw vt cr (l ++ [13]) w' := grow_calls w b vw vt cr l 13 hb hs hl
/-- what the walk reads of a reader -/
theorem Op.cells {w : World} {b : Nat} {F : Nat → Prop} {vw vt : Value} {ps : List (Value × List UInt8)} {cur : List UInt8} {cr : Bool} (h : Op w b F vw vt ps cur cr) :
    w.cell? ⟨b, 0, none⟩ = some vw ∧ w.cell? ⟨b, 4, none⟩ = some (.bool cr) ∧ w.frozen? ⟨b, 0, none⟩ = false ∧ w.frozen? ⟨b, 4, none⟩ = false :=
  ⟨(h.blk.cell 0).trans rfl, (h.blk.cell 4).trans rfl, h.blk.frozen 0, h.blk.frozen 4⟩
theorem size_set (w : World) (p : Addr) (u : Value) : (w.setCell p u).heap.size = w.heap.size := by simp [World.setCell]
set_option maxHeartbeats 1000000 in
set_option maxRecDepth 100000 in
/-- a byte, no CR ahead of it -/
theorem feed_f (w : World) (b : Nat) (F : Nat → Prop) (vw vt : Value) (ps : List (Value × List UInt8)) (cur : List UInt8) (c : UInt8) (h : Op w b F vw vt ps cur false) (hl : cur.length ≤ 1000000) :
    Calls Try.prog 29 #[.pointer (some ⟨b, 0, none⟩), .int .u8 (c.toNat : Int)] w fun e w' => e = .returned (.tuple #[]) ∧ FeedPost w b F (fd (ps.map (·.2), cur, false) c) w' := by
  obtain ⟨c0, c4, f0, f4⟩ := h.cells
  by_cases h13 : c = 13
  · subst h13
    obtain ⟨hm, om⟩ := h.mark true
    obtain ⟨m0, m4, n0, n4⟩ := hm.cells
    go_enter Try.func29, Try.ntmps29
    go_wp2
    go_end0
    exact ⟨rfl, ⟨vw, vt, ps, hm.mono (fun k hk => .inl hk) (ext_lt h.flt (by rw [size_set]; exact Nat.le_refl _)), rfl⟩, om⟩
  · have hn13 : ((c.toNat : Int) == 13) = false := by rw [e13]; simpa using h13
    obtain ⟨hm, om⟩ := h.mark false
    obtain ⟨m0, m4, n0, n4⟩ := hm.cells
    go_enter Try.func29, Try.ntmps29
    go_wp2_with fail
    refine (grow_calls _ b vw vt _ cur c hm.blk hm.kept hl).mono ?_
    rintro e w2 ⟨rfl, g⟩
    go_wp2
    go_end0
    obtain ⟨vt2, h2, o2⟩ := hm.grow g
    have hfd : fd (ps.map (·.2), cur, false) c = (ps.map (·.2), cur ++ [c], false) := by simp [fd, h13]
    rw [hfd]
    have hall := om.trans o2
    exact ⟨rfl, ⟨vw, vt2, ps, h2.mono (fun k hk => hk.imp_right fun e => ⟨by rw [size_set] at e; exact e.1, e.2⟩) (ext_lt h.flt hall.size), rfl⟩, hall⟩
set_option maxHeartbeats 1000000 in
set_option maxRecDepth 100000 in
/-- a byte behind a CR, and no LF -/
theorem feed_t (w : World) (b : Nat) (F : Nat → Prop) (vw vt : Value) (ps : List (Value × List UInt8)) (cur : List UInt8) (c : UInt8) (h : Op w b F vw vt ps cur true) (hc : c ≠ 10) (hl : cur.length ≤ 999990) :
    Calls Try.prog 29 #[.pointer (some ⟨b, 0, none⟩), .int .u8 (c.toNat : Int)] w fun e w' => e = .returned (.tuple #[]) ∧ FeedPost w b F (fd (ps.map (·.2), cur, true) c) w' := by
  obtain ⟨c0, c4, f0, f4⟩ := h.cells
  by_cases h13 : c = 13
  · subst h13
    go_enter Try.func29, Try.ntmps29
    go_wp2_with fail
    refine (grow13 _ b vw vt _ cur h.blk h.kept (by omega)).mono ?_
    rintro e w1 ⟨rfl, g⟩
    obtain ⟨vt1, h1, o1⟩ := h.grow g
    obtain ⟨d0, d4, g0, g4⟩ := h1.cells
    obtain ⟨hm, om⟩ := h1.mark true
    obtain ⟨m0, m4, n0, n4⟩ := hm.cells
    clear c0 c4 f0 f4
    go_wp2
    go_end0
    have hall := o1.ext_ om
    exact ⟨rfl, ⟨vw, vt1, ps, hm.mono (ext_more (by rw [size_set]; exact Nat.le_refl _)) (ext_lt h.flt hall.size), rfl⟩, hall⟩
  · have hn13 : ((c.toNat : Int) == 13) = false := by rw [e13]; simpa using h13
    have hn10 : ((c.toNat : Int) == 10) = false := by rw [e10]; simpa using hc
    go_enter Try.func29, Try.ntmps29
    go_wp2_with fail
    refine (grow13 _ b vw vt _ cur h.blk h.kept (by omega)).mono ?_
    rintro e w1 ⟨rfl, g⟩
    obtain ⟨vt1, h1, o1⟩ := h.grow g
    obtain ⟨d0, d4, g0, g4⟩ := h1.cells
    obtain ⟨hm, om⟩ := h1.mark false
    obtain ⟨m0, m4, n0, n4⟩ := hm.cells
    clear c0 c4 f0 f4
    go_wp2_with fail
    refine (grow_calls _ b vw vt1 _ _ c hm.blk hm.kept (by simp; omega)).mono ?_
    rintro e w2 ⟨rfl, g2⟩
    go_wp2
    go_end0
    obtain ⟨vt2, h2, o2⟩ := hm.grow g2
    have hfd : fd (ps.map (·.2), cur, true) c = (ps.map (·.2), (cur ++ [13]) ++ [c], false) := by simp [fd, h13, hc]
    rw [hfd]
    have hall := o1.ext_ (om.trans o2)
    exact ⟨rfl, ⟨vw, vt2, ps, h2.mono (ext_join o1.size (by rw [size_set]; exact Nat.le_refl _) o2.size) (ext_lt h.flt hall.size), rfl⟩, hall⟩
theorem feed_calls (w : World) (b : Nat) (F : Nat → Prop) (m : M) (c : UInt8) (h : Rd w b F m) (h1 : m.1.length ≤ 1000000) (h2 : m.2.1.length ≤ 999990) :
    Calls Try.prog 29 #[.pointer (some ⟨b, 0, none⟩), .int .u8 (c.toNat : Int)] w fun e w' => e = .returned (.tuple #[]) ∧ FeedPost w b F (fd m c) w' := by
  obtain ⟨ws, cur, cr⟩ := m
  obtain ⟨vw, vt, ps, h, e⟩ := h
  obtain rfl : ps.map (·.2) = ws := e
  simp only [List.length_map] at h1
  cases cr with
  | false => exact feed_f w b F vw vt ps cur c h (by simp only at h2; omega)
  | true =>
    by_cases hc : c = 10
    · subst hc
      obtain ⟨A, cap, rfl, _⟩ := h.whole.form
      exact feed_end w b F A cap vt ps cur h h1
    · exact feed_t w b F vw vt ps cur c h hc h2
end Go.Proofs.Ytpolfnckbfdhgaa.Crlf
