/- disk: the law's 'does', walked. -/
import Derived.Test.YtohflbmmglmhhaaDiskW
namespace Go.Proofs.Ytohflbmmglmhhaa.Dk
open Go.RowKit Go.Proofs.Ytohflbmmglmhhaa.Mem Go.Proofs.Ytohflbmmglmhhaa.X Go.Proofs.YtohflbmmglmhhaaW.PrintWords Go.Proofs.YtohflbmmglmhhaaW.PrintLast Go.Proofs.YtohflbmmglmhhaaW.PrintMore Go.Proofs.Ytohflbmmglmhhaa.Aid
set_option linter.unusedVariables false
set_option linter.unusedSimpArgs false
/-- the program's disk and the document's, side by side; what has turned since wb -/
structure St (w0 wb : World) (Fb : Nat → Prop) (w : World) (p : Nat) (F : Nat → Prop) (lv cv : Value) (d dr : D) : Prop where
  pd : PD w p F d
  rd : RD w lv cv dr
  ap : ∀ k, own lv k ∨ own cv k → ¬ F k
  fb : ∀ k, F k → w0.heap.size ≤ k
  bl : Below w0.heap.size w0 w
  on : Only Fb wb w
  fx : ∀ k, F k → Fb k ∨ wb.heap.size ≤ k
section
variable {w0 wb w w' : World} {Fb : Nat → Prop} {p : Nat} {F : Nat → Prop} {lv cv lv' cv' : Value} {d dr d' dr' : D}
theorem St.rebase (h : St w0 wb Fb w p F lv cv d dr) : St w0 w F w p F lv cv d dr := ⟨h.pd, h.rd, h.ap, h.fb, h.bl, Only.refl _ _, fun k f => .inl f⟩
theorem St.below (h : St w0 wb Fb w p F lv cv d dr) (hb : Below w.heap.size w w') : St w0 wb Fb w' p F lv cv d dr := ⟨h.pd.below hb, h.rd.below hb, h.ap, h.fb, h.bl.trans (hb.mono h.bl.size), h.on.below hb, h.fx⟩
theorem St.alloc (h : St w0 wb Fb w p F lv cv d dr) (o : Obj) : St w0 wb Fb (w.alloc o) p F lv cv d dr := h.below ((Below.refl _ w).alloc (Nat.le_refl _) _)
theorem St.drew (h : St w0 wb Fb w p F lv cv d dr) : St w0 wb Fb w.drew p F lv cv d dr := h.below (Below.refl _ w).drew
theorem St.ref (h : St w0 wb Fb w p F lv cv d dr) (hr : RD w' lv' cv' dr') (hb : Below w.heap.size w w') (h1 : ∀ k, own lv' k → own lv k ∨ w.heap.size ≤ k) (h2 : ∀ k, own cv' k → own cv k ∨ w.heap.size ≤ k) : St w0 wb Fb w' p F lv' cv' d dr' :=
  ⟨h.pd.below hb, hr, fun k hk f => by
    have hf := h.pd.lt k f
    rcases hk with e | e
    · rcases h1 k e with e | e
      · exact h.ap k (.inl e) f
      · omega
    · rcases h2 k e with e | e
      · exact h.ap k (.inr e) f
      · omega, h.fb, h.bl.trans (hb.mono h.bl.size), h.on.below hb, h.fx⟩
theorem St.prog (h : St w0 wb Fb w p F lv cv d dr) (hp : Post w p F d' w') : St w0 wb Fb w' p (ext F w w') lv cv d' dr :=
  ⟨hp.1, h.rd.only hp.2 fun k f => ⟨fun e => h.ap k (.inl e) f, fun e => h.ap k (.inr e) f⟩, fun k hk f => by
    have hl := h.rd.lt k hk
    rcases f with f | f
    · exact h.ap k hk f
    · omega, fun k f => by
    rcases f with f | f
    · exact h.fb k f
    · have := h.bl.size; omega, Only.below_mine hp.2 h.fb h.bl.size h.bl, h.on.trans' hp.2 h.fx, fun k f => by
    rcases f with f | f
    · exact h.fx k f
    · have := h.on.size; exact .inr (by omega)⟩
theorem St.same (h : St w0 wb Fb w p F lv cv d dr) (e1 : dr'.l = dr.l) (e2 : dr'.cache = dr.cache) : St w0 wb Fb w p F lv cv d dr' := ⟨h.pd, h.rd.same e1 e2, h.ap, h.fb, h.bl, h.on, h.fx⟩
theorem St.far (h : St w0 wb Fb w p F lv cv d dr) {g j : Nat} {cs : Array Value} (hb : Blk w g 32 cs) (hF : ¬ F g) (hg : w0.heap.size ≤ wb.heap.size) (hgb : wb.heap.size ≤ g) (u : Value) : St w0 wb Fb (w.setCell ⟨g, j, none⟩ u) p F lv cv d dr :=
  ⟨h.pd.only (G := fun k => k = g) ((Only.refl (fun k => k = g) w).setCell (p := ⟨g, j, none⟩) (.inl rfl) u) (fun k f e => hF (e ▸ f)), ⟨h.rd.secs.far (p := ⟨g, j, none⟩) (h.rd.secs.type_ne hb (by decide)) u, h.rd.cach.far (p := ⟨g, j, none⟩) (h.rd.cach.type_ne hb (by decide)) u⟩, h.ap, h.fb, h.bl.setCell (p := ⟨g, j, none⟩) (Nat.le_trans hg hgb) u, h.on.setCell (p := ⟨g, j, none⟩) (.inr hgb) u, h.fx⟩
theorem St.cellsF (h : St w0 wb Fb w p F lv cv d dr) {g : Nat} {cs : Array Value} (hb : Blk w g 32 cs) (vs : List Value) (o : Nat) (hF : ¬ F g) (hg : w0.heap.size ≤ wb.heap.size) (hgb : wb.heap.size ≤ g) : St w0 wb Fb (w.setCells g o vs) p F lv cv d dr :=
  ⟨h.pd.only (G := fun k => k = g) ((Only.refl (fun k => k = g) w).cells (.inl rfl) o vs) (fun k f e => hF (e ▸ f)), RD.cells h.rd hb vs o, h.ap, h.fb, below_cells h.bl (Nat.le_trans hg hgb), h.on.cells (.inr hgb) o vs, h.fx⟩
end
theorem setCells7 (w : World) (g : Nat) (a b c d e f h : Value) : w.setCells g 0 [a, b, c, d, e, f, h] = ((((((w.setCell ⟨g, 0, none⟩ a).setCell ⟨g, 1, none⟩ b).setCell ⟨g, 2, none⟩ c).setCell ⟨g, 3, none⟩ d).setCell ⟨g, 4, none⟩ e).setCell ⟨g, 5, none⟩ f).setCell ⟨g, 6, none⟩ h := rfl
/-- an act, done -/
def doesD (d : D) (kind at_ n : Int) (s : ByteArray) (is : Bool) (keep : List Bool) : D :=
  if kind = 0 then (put d at_ s).1 else if kind = 1 then (flush d).1 else if kind = 2 then cut d n else if kind = 3 then fill d is else if kind = 4 then crash d keep n else d
theorem put_there (d : D) (at_ : Int) (s : ByteArray) : d.l = (put d at_ s).1.l := by
  have h := (oper_l d).1
  unfold put
  split
  · rfl
  · split
    · rfl
    · split
      · exact h.symm
      · exact h.symm
set_option maxHeartbeats 8000000 in
set_option maxRecDepth 100000 in
theorem does_calls (w0 w : World) (p : Nat) (F : Nat → Prop) (lv cv : Value) (d : D) (h : St w0 w F w p F lv cv d d) (hf : Fine d) (N : Nat) (hN : Few d N) (hN' : N ≤ 100000) (hz : 16 ≤ d.size) (kind at_ n fb : Int) (short is : Bool) (K : Option Addr) (c : Nat) (keep : List Bool)
    (hk : Kd.C Kd.bool w0 K keep.length keep) (hkc : keep.length ≤ c) (hn : (Lit.int .i64 n).wf = true) :
    Calls Try.prog 9 #[.pointer (some ⟨p, 0, none⟩), .agg (dcells d lv cv), .agg #[.int .i64 kind, .int .i64 at_, .int .i64 n, .int .u8 fb, .bool short, .bool is, .slice K keep.length c]] w fun e w' => ∃ (d' : D) (F' : Nat → Prop) (lv' cv' : Value), e = .returned (.tuple #[.agg (dcells d' lv' cv'), .bool true]) ∧ St w0 w F w' p F' lv' cv' d' d' ∧ ∃ s, d' = doesD d kind at_ n s is keep := by
  obtain ⟨hn0, hn1⟩ := wf64 hn
  have hlt := h.pd.lt
  have HF := Lib.hid hf
  have HN := Lib.hid hN
  obtain ⟨ds, dl, dc, left, off, full, ops⟩ := d
  have h256 := hf.size
  simp only at hz h256
  obtain ⟨A, cap, rfl, _⟩ := h.rd.secs.form
  obtain ⟨A1, cap1, rfl, _⟩ := h.rd.cach.form
  rw [dcells_mk]
  go_enter Try.func9, Try.ntmps9
  have hw0 := h.bl.size
  have b4 := ((Blk.new w 32 #[.int .i64 (ds : Int), (.slice A dl.length cap), (.slice A1 dc.length cap1), .int .i64 (left : Int), .bool off, .bool full, .int .i64 (ops : Int)]).alloc (.cells #[.int .i64 kind, .int .i64 at_, .int .i64 n, .int .u8 fb, .bool short, .bool is, .slice K keep.length c] 37)).alloc (.cells zero7 32)
  have b5 := (blk_new2 w (.cells #[.int .i64 (ds : Int), (.slice A dl.length cap), (.slice A1 dc.length cap1), .int .i64 (left : Int), .bool off, .bool full, .int .i64 (ops : Int)] 32) 37 #[.int .i64 kind, .int .i64 at_, .int .i64 n, .int .u8 fb, .bool short, .bool is, .slice K keep.length c]).alloc (.cells zero7 32)
  have b6 := blk_new3 w (.cells #[.int .i64 (ds : Int), (.slice A dl.length cap), (.slice A1 dc.length cap1), .int .i64 (left : Int), .bool off, .bool full, .int .i64 (ops : Int)] 32) (.cells #[.int .i64 kind, .int .i64 at_, .int .i64 n, .int .u8 fb, .bool short, .bool is, .slice K keep.length c] 37) 32 zero7
  have bs := h.below (below3 w (.cells #[.int .i64 (ds : Int), (.slice A dl.length cap), (.slice A1 dc.length cap1), .int .i64 (left : Int), .bool off, .bool full, .int .i64 (ops : Int)] 32) (.cells #[.int .i64 kind, .int .i64 at_, .int .i64 n, .int .u8 fb, .bool short, .bool is, .slice K keep.length c] 37) (.cells zero7 32))
  have bz : (((w.alloc (.cells #[.int .i64 (ds : Int), (.slice A dl.length cap), (.slice A1 dc.length cap1), .int .i64 (left : Int), .bool off, .bool full, .int .i64 (ops : Int)] 32)).alloc (.cells #[.int .i64 kind, .int .i64 at_, .int .i64 n, .int .u8 fb, .bool short, .bool is, .slice K keep.length c] 37)).alloc (.cells zero7 32)).heap.size = w.heap.size + 3 := by simp
  clear h hf
  have hkv : (Value.slice K keep.length c).oneCell' = true := rfl
  have hsec := fun W => sector_calls W kind at_ n fb short is (.slice K keep.length c) hkv ds hz h256
  go_wp2_with fail
  refine (hsec _).mono ?_
  rintro e w1 ⟨s, rfl, hb1⟩
  have c4 := b4.below hb1
  have c5 := b5.below hb1
  have c6 := b6.below hb1
  have cs := bs.below hb1
  have hz1 := hb1.size
  simp only [World.size_alloc] at hz1
  clear b4 b5 b6 bs bz hb1 hsec
  obtain ⟨y0, y1, y2, y3, y4, y5, y6⟩ := blk7 c5
  obtain ⟨z0, z1, z2, z3, z4, z5, z6⟩ := blk7 c4
  by_cases k0 : kind = 0
  · have t0 : (kind == 0) = true := beq_iff_eq.mpr k0
    have HD := Lib.hid (show doesD ⟨ds, dl, dc, left, off, full, ops⟩ kind at_ n s is keep = (put ⟨ds, dl, dc, left, off, full, ops⟩ at_ s).1 by unfold doesD; rw [if_pos k0])
    have hcc : dc.length ≤ 1000000000 := by have := HN.out.2; simp only at this; omega
    have hoo : ops ≤ 1000000000 := by have := HN.out.1; simp only at this; omega
    have hll : left ≤ 9223372036854775807 := HF.out.left
    have hput := rput_calls w1 _ _ _ cs.rd at_ s hll hoo hcc
    have hwr := fun W (hW : PD W p F ⟨ds, dl, dc, left, off, full, ops⟩) => write_calls W p F _ hW at_ s hll hoo hcc
    have hpl := put_there ⟨ds, dl, dc, left, off, full, ops⟩ at_ s
    obtain ⟨⟨⟨s1, l1, q1, left1, off1, full1, ops1⟩, code⟩, hpd⟩ : ∃ x, put ⟨ds, dl, dc, left, off, full, ops⟩ at_ s = x := ⟨_, rfl⟩
    rw [hpd] at hput hwr hpl HD
    simp only at hput hwr hpl HD
    subst hpl
    simp only [dcells_mk] at hput
    clear hpd k0
    go_wp2_with fail
    refine hput.mono ?_
    rintro e w2 ⟨cv', rfl, hR2, hb2, o2⟩
    have es := cs.ref hR2 hb2 (fun k hk => .inl hk) o2
    obtain ⟨A1', cap1', rfl, _⟩ := hR2.cach.form
    have d4 := c4.below hb2
    have d5 := c5.below hb2
    have d6 := c6.below hb2
    have f5 := d5.alloc (.cells #[.int .i64 (s1 : Int), .slice A dl.length cap, .slice A1' q1.length cap1', .int .i64 (left1 : Int), .bool off1, .bool full1, .int .i64 (ops1 : Int)] 32)
    have f6 := d6.alloc (.cells #[.int .i64 (s1 : Int), .slice A dl.length cap, .slice A1' q1.length cap1', .int .i64 (left1 : Int), .bool off1, .bool full1, .int .i64 (ops1 : Int)] 32)
    have f9 := Blk.new w2 32 #[.int .i64 (s1 : Int), .slice A dl.length cap, .slice A1' q1.length cap1', .int .i64 (left1 : Int), .bool off1, .bool full1, .int .i64 (ops1 : Int)]
    have fs := es.alloc (.cells #[.int .i64 (s1 : Int), .slice A dl.length cap, .slice A1' q1.length cap1', .int .i64 (left1 : Int), .bool off1, .bool full1, .int .i64 (ops1 : Int)] 32)
    have hz2 := hb2.size
    clear c4 c5 c6 cs hput hb2 o2 hR2 d4 d5 d6 es y1 y2 y3 y4 y5 y6
    go_wp2
    change Code.wp _ _ _ _ (w2.alloc (.cells #[.int .i64 (s1 : Int), .slice A dl.length cap, .slice A1' q1.length cap1', .int .i64 (left1 : Int), .bool off1, .bool full1, .int .i64 (ops1 : Int)] 32))
    have hW : (w2.alloc (.cells #[.int .i64 (s1 : Int), .slice A dl.length cap, .slice A1' q1.length cap1', .int .i64 (left1 : Int), .bool off1, .bool full1, .int .i64 (ops1 : Int)] 32)).heap.size = w2.heap.size + 1 := by simp
    generalize w2.alloc (.cells #[.int .i64 (s1 : Int), .slice A dl.length cap, .slice A1' q1.length cap1', .int .i64 (left1 : Int), .bool off1, .bool full1, .int .i64 (ops1 : Int)] 32) = w3 at f5 f6 f9 fs hW ⊢
    clear y0 z0 z1 z2 z3 z4 z5 z6
    refine start_ (n := 10) (S := fun w' => Blk w' w2.heap.size 32 #[.int .i64 (s1 : Int), .slice A dl.length cap, .slice A1' q1.length cap1', .int .i64 (left1 : Int), .bool off1, .bool full1, .int .i64 (ops1 : Int)] ∧ Blk w' (w.heap.size + 1) 37 #[.int .i64 kind, .int .i64 at_, .int .i64 n, .int .u8 fb, .bool short, .bool is, .slice K keep.length c]) (ds := []) #[false, false, false, false, false, false, false, false, false, false] (by kernel_rfl) rfl rfl ⟨f9.drew, f5.drew⟩ (fun hHeld => ?_)
    have g6 := f6.drew
    have gs := fs.drew
    have hWd : w3.drew.heap.size = w2.heap.size + 1 := hW
    clear f5 f6 f9 fs hW
    generalize w3.drew = w4 at hHeld g6 gs hWd ⊢
    refine take_ (i := 0) (N := some 56) (v := ?_) (a' := ?_) #[true, false, false, false, false, false, false, false, false, false] rfl rfl (by kernel_rfl) (fun _ _ _ h => h) (Or.inl ⟨by rfl, ?_⟩) hHeld ?_ ?_
    rotate_left
    · rintro w' ⟨hS, _⟩
      obtain ⟨s0, s1, s2, s3, s4, s5, s6⟩ := blk7 hS
      go_simp
      with_reducible rfl
    rotate_left
    · simp only [Act.put, List.setIfInBounds_toArray, List.set_cons_zero, List.set_cons_succ]
      rfl
    refine pure_ (i := 1) (N := some 57) (v := ?_) (a' := ?_) #[true, true, false, false, false, false, false, false, false, false] rfl rfl (by kernel_rfl) (fun _ _ _ h => h) (Or.inl ⟨by rfl, ?_⟩) ?_ ?_
    rotate_left
    · intro w'
      go_simp
      with_reducible rfl
    rotate_left
    · simp only [Act.put, List.setIfInBounds_toArray, List.set_cons_zero, List.set_cons_succ]
      rfl
    refine pure_ (i := 2) (N := some 58) (v := ?_) (a' := ?_) #[true, true, true, false, false, false, false, false, false, false] rfl rfl (by kernel_rfl) (fun _ _ _ h => h) (Or.inl ⟨by rfl, ?_⟩) ?_ ?_
    rotate_left
    · intro w'
      go_simp
      with_reducible rfl
    rotate_left
    · simp only [Act.put, List.setIfInBounds_toArray, List.set_cons_zero, List.set_cons_succ]
      rfl
    refine take_ (i := 3) (N := some 59) (v := ?_) (a' := ?_) #[true, true, true, true, false, false, false, false, false, false] rfl rfl (by kernel_rfl) (fun _ _ _ h => h) (Or.inl ⟨by rfl, ?_⟩) hHeld ?_ ?_
    rotate_left
    · rintro w' ⟨_, hS⟩
      obtain ⟨s0, s1, s2, s3, s4, s5, s6⟩ := blk7 hS
      go_simp
      with_reducible rfl
    rotate_left
    · simp only [Act.put, List.setIfInBounds_toArray, List.set_cons_zero, List.set_cons_succ]
      rfl
    refine pure_ (i := 4) (N := some 60) (v := ?_) (a' := ?_) #[true, true, true, true, true, false, false, false, false, false] rfl rfl (by kernel_rfl) (fun _ _ _ h => h) (Or.inl ⟨by rfl, ?_⟩) ?_ ?_
    rotate_left
    · intro w'
      go_simp
      with_reducible rfl
    rotate_left
    · simp only [Act.put, List.setIfInBounds_toArray, List.set_cons_zero, List.set_cons_succ]
      rfl
    refine pure_ (i := 6) (N := some 62) (v := ?_) (a' := ?_) #[true, true, true, true, true, false, true, false, false, false] rfl rfl (by kernel_rfl) (fun _ _ _ h => h) (Or.inl ⟨by rfl, ?_⟩) ?_ ?_
    rotate_left
    · intro w'
      go_simp
      with_reducible rfl
    rotate_left
    · simp only [Act.put, List.setIfInBounds_toArray, List.set_cons_zero, List.set_cons_succ]
      rfl
    refine one_ (i := 5) (N := some 61) #[true, true, true, true, true, true, true, false, false, false] rfl rfl (by kernel_rfl) (by decide) (fun K hK => ?_)
    go_simp
    go_wp2_with (go_at_call 18; refine (hwr _ gs.pd).mono ?_; rintro e w5 ⟨rfl, hp⟩)
    have n9 := hp.2.blk hHeld.1 (fun e => by have := hlt _ e; omega)
    have n5 := hp.2.blk hHeld.2 (fun e => by have := hlt _ e; omega)
    have n6 := hp.2.blk g6 (fun e => by have := hlt _ e; omega)
    have ns := gs.prog hp
    have hzz := hp.2.size
    have hF2 : ∀ g, w.heap.size ≤ g → g < w.heap.size + 3 → ¬ ext F w4 w5 g := fun g g1 g2 e => by
      rcases e with e | e
      · have := hlt _ e; omega
      · omega
    refine hK.out _ _ ⟨n9, n5⟩ (fun hHeld => ?_)
    clear hK K hp g6 gs hwr
    refine pure_ (i := 7) (N := some 63) (v := ?_) (a' := ?_) #[true, true, true, true, true, true, true, true, false, false] rfl rfl (by kernel_rfl) (fun _ _ _ h => h) (Or.inl ⟨by rfl, ?_⟩) ?_ ?_
    rotate_left
    · intro w'
      go_simp
      with_reducible rfl
    rotate_left
    · simp only [Act.put, List.setIfInBounds_toArray, List.set_cons_zero, List.set_cons_succ]
      rfl
    refine one_ (i := 8) (N := none) #[true, true, true, true, true, true, true, true, true, false] rfl rfl (by kernel_rfl) (by decide) (fun K hK => ?_)
    rw [if_pos (by rfl)]
    refine wp_store_mid 32 (.tmp 6) (.tmp 56) rfl (w.heap.size + 2) 0 #[.int .i64 (s1 : Int), .slice A dl.length cap, .slice A1' q1.length cap1', .int .i64 (left1 : Int), .bool off1, .bool full1, .int .i64 (ops1 : Int)] rfl rfl (there_blk n6 (n := 7) (by show 7 ≤ 7; omega)) info_d (by simp [Value.oneCell']) ?_
    have m6 := blk_whole n6 (cs := #[.int .i64 (s1 : Int), .slice A dl.length cap, .slice A1' q1.length cap1', .int .i64 (left1 : Int), .bool off1, .bool full1, .int .i64 (ops1 : Int)]) rfl
    have ms := ns.cellsF n6 [.int .i64 (s1 : Int), .slice A dl.length cap, .slice A1' q1.length cap1', .int .i64 (left1 : Int), .bool off1, .bool full1, .int .i64 (ops1 : Int)] 0 (hF2 _ (by omega) (by omega)) hw0 (by omega)
    have m9 := blk_whole_far n9 (g' := w.heap.size + 2) (by omega) [.int .i64 (s1 : Int), .slice A dl.length cap, .slice A1' q1.length cap1', .int .i64 (left1 : Int), .bool off1, .bool full1, .int .i64 (ops1 : Int)] 0
    have m5 := blk_whole_far n5 (g' := w.heap.size + 2) (by omega) [.int .i64 (s1 : Int), .slice A dl.length cap, .slice A1' q1.length cap1', .int .i64 (left1 : Int), .bool off1, .bool full1, .int .i64 (ops1 : Int)] 0
    refine hK.out _ _ ⟨m9, m5⟩ (fun _ => ?_)
    clear hK K
    refine pure_ (i := 9) (N := some 7) (v := ?_) (a' := ?_) #[true, true, true, true, true, true, true, true, true, true] rfl rfl (by kernel_rfl) (fun _ _ _ h => h) (Or.inl ⟨by rfl, ?_⟩) ?_ ?_
    rotate_left
    · intro w'
      go_simp
      with_reducible rfl
    rotate_left
    · simp only [Act.put, List.setIfInBounds_toArray, List.set_cons_zero, List.set_cons_succ]
      rfl
    refine done_ (by kernel_rfl) ?_
    try go_wp2
    refine bodyPost_ret (results_ct rfl _ _ _ 32 _ (0, 0) _ rfl m6 Try.underlying32 rfl info_d) rfl ⟨_, _, _, _, ?_, ms, ⟨s, HD.out.symm⟩⟩
    rfl
  have t0 : (kind == 0) = false := beq_eq_false_iff_ne.mpr k0
  by_cases k1 : kind = 1
  · have t1 : (kind == 1) = true := beq_iff_eq.mpr k1
    have HD := Lib.hid (show doesD ⟨ds, dl, dc, left, off, full, ops⟩ kind at_ n s is keep = (flush ⟨ds, dl, dc, left, off, full, ops⟩).1 by unfold doesD; rw [if_neg k0, if_pos k1])
    have hcc : dc.length ≤ 1000000000 := by have := HN.out.2; simp only at this; omega
    have hoo : ops ≤ 1000000000 := by have := HN.out.1; simp only at this; omega
    have hll : left ≤ 9223372036854775807 := HF.out.left
    have hput := rflush_calls w1 _ _ _ cs.rd HF.out hoo hcc
    have hwr := fun W (hW : PD W p F ⟨ds, dl, dc, left, off, full, ops⟩) => flush_calls W p F _ hW HF.out hoo hcc
    obtain ⟨⟨⟨s1, l1, q1, left1, off1, full1, ops1⟩, code⟩, hpd⟩ : ∃ x, flush ⟨ds, dl, dc, left, off, full, ops⟩ = x := ⟨_, rfl⟩
    rw [hpd] at hput hwr HD
    simp only at hput hwr HD
    simp only [dcells_mk] at hput
    clear hpd k0 k1
    go_wp2_with fail
    refine hput.mono ?_
    rintro e w2 ⟨lv', cv', rfl, hR2, hb2, o1, o2⟩
    have es := cs.ref hR2 hb2 o1 o2
    obtain ⟨A', cap', rfl, _⟩ := hR2.secs.form
    obtain ⟨A1', cap1', rfl, _⟩ := hR2.cach.form
    have d4 := c4.below hb2
    have d5 := c5.below hb2
    have d6 := c6.below hb2
    have f5 := d5.alloc (.cells #[.int .i64 (s1 : Int), .slice A' l1.length cap', .slice A1' q1.length cap1', .int .i64 (left1 : Int), .bool off1, .bool full1, .int .i64 (ops1 : Int)] 32)
    have f6 := d6.alloc (.cells #[.int .i64 (s1 : Int), .slice A' l1.length cap', .slice A1' q1.length cap1', .int .i64 (left1 : Int), .bool off1, .bool full1, .int .i64 (ops1 : Int)] 32)
    have f9 := Blk.new w2 32 #[.int .i64 (s1 : Int), .slice A' l1.length cap', .slice A1' q1.length cap1', .int .i64 (left1 : Int), .bool off1, .bool full1, .int .i64 (ops1 : Int)]
    have fs := es.alloc (.cells #[.int .i64 (s1 : Int), .slice A' l1.length cap', .slice A1' q1.length cap1', .int .i64 (left1 : Int), .bool off1, .bool full1, .int .i64 (ops1 : Int)] 32)
    have hz2 := hb2.size
    clear c4 c5 c6 cs hput hb2 o1 o2 hR2 d4 d5 d6 es y1 y2 y3 y4 y5 y6
    go_wp2
    change Code.wp _ _ _ _ (w2.alloc (.cells #[.int .i64 (s1 : Int), .slice A' l1.length cap', .slice A1' q1.length cap1', .int .i64 (left1 : Int), .bool off1, .bool full1, .int .i64 (ops1 : Int)] 32))
    have hW : (w2.alloc (.cells #[.int .i64 (s1 : Int), .slice A' l1.length cap', .slice A1' q1.length cap1', .int .i64 (left1 : Int), .bool off1, .bool full1, .int .i64 (ops1 : Int)] 32)).heap.size = w2.heap.size + 1 := by simp
    generalize w2.alloc (.cells #[.int .i64 (s1 : Int), .slice A' l1.length cap', .slice A1' q1.length cap1', .int .i64 (left1 : Int), .bool off1, .bool full1, .int .i64 (ops1 : Int)] 32) = w3 at f5 f6 f9 fs hW ⊢
    clear y0 z0 z1 z2 z3 z4 z5 z6
    refine start_ (n := 7) (S := fun w' => Blk w' w2.heap.size 32 #[.int .i64 (s1 : Int), .slice A' l1.length cap', .slice A1' q1.length cap1', .int .i64 (left1 : Int), .bool off1, .bool full1, .int .i64 (ops1 : Int)]) (ds := []) #[false, false, false, false, false, false, false] (by kernel_rfl) rfl rfl f9.drew (fun hHeld => ?_)
    have g6 := f6.drew
    have gs := fs.drew
    have hWd : w3.drew.heap.size = w2.heap.size + 1 := hW
    clear f5 f6 f9 fs hW
    generalize w3.drew = w4 at hHeld g6 gs hWd ⊢
    refine take_ (i := 0) (N := some 71) (v := ?_) (a' := ?_) #[true, false, false, false, false, false, false] rfl rfl (by kernel_rfl) (fun _ _ _ h => h) (Or.inl ⟨by rfl, ?_⟩) hHeld ?_ ?_
    rotate_left
    · intro w' hS
      obtain ⟨s0, s1, s2, s3, s4, s5, s6⟩ := blk7 hS
      go_simp
      with_reducible rfl
    rotate_left
    · simp only [Act.put, List.setIfInBounds_toArray, List.set_cons_zero, List.set_cons_succ]
      rfl
    refine pure_ (i := 1) (N := some 72) (v := ?_) (a' := ?_) #[true, true, false, false, false, false, false] rfl rfl (by kernel_rfl) (fun _ _ _ h => h) (Or.inl ⟨by rfl, ?_⟩) ?_ ?_
    rotate_left
    · intro w'
      go_simp
      with_reducible rfl
    rotate_left
    · simp only [Act.put, List.setIfInBounds_toArray, List.set_cons_zero, List.set_cons_succ]
      rfl
    refine pure_ (i := 3) (N := some 74) (v := ?_) (a' := ?_) #[true, true, false, true, false, false, false] rfl rfl (by kernel_rfl) (fun _ _ _ h => h) (Or.inl ⟨by rfl, ?_⟩) ?_ ?_
    rotate_left
    · intro w'
      go_simp
      with_reducible rfl
    rotate_left
    · simp only [Act.put, List.setIfInBounds_toArray, List.set_cons_zero, List.set_cons_succ]
      rfl
    refine one_ (i := 2) (N := some 73) #[true, true, true, true, false, false, false] rfl rfl (by kernel_rfl) (by decide) (fun K hK => ?_)
    go_simp
    go_wp2_with (go_at_call 23; refine (hwr _ gs.pd).mono ?_; rintro e w5 ⟨rfl, hp⟩)
    have n9 := hp.2.blk hHeld (fun e => by have := hlt _ e; omega)
    have n6 := hp.2.blk g6 (fun e => by have := hlt _ e; omega)
    have ns := gs.prog hp
    have hzz := hp.2.size
    have hF2 : ∀ g, w.heap.size ≤ g → g < w.heap.size + 3 → ¬ ext F w4 w5 g := fun g g1 g2 e => by
      rcases e with e | e
      · have := hlt _ e; omega
      · omega
    refine hK.out _ _ n9 (fun hHeld => ?_)
    clear hK K hp g6 gs hwr
    refine pure_ (i := 4) (N := some 75) (v := ?_) (a' := ?_) #[true, true, true, true, true, false, false] rfl rfl (by kernel_rfl) (fun _ _ _ h => h) (Or.inl ⟨by rfl, ?_⟩) ?_ ?_
    rotate_left
    · intro w'
      go_simp
      with_reducible rfl
    rotate_left
    · simp only [Act.put, List.setIfInBounds_toArray, List.set_cons_zero, List.set_cons_succ]
      rfl
    refine one_ (i := 5) (N := none) #[true, true, true, true, true, true, false] rfl rfl (by kernel_rfl) (by decide) (fun K hK => ?_)
    rw [if_pos (by rfl)]
    refine wp_store_mid 32 (.tmp 6) (.tmp 71) rfl (w.heap.size + 2) 0 #[.int .i64 (s1 : Int), .slice A' l1.length cap', .slice A1' q1.length cap1', .int .i64 (left1 : Int), .bool off1, .bool full1, .int .i64 (ops1 : Int)] rfl rfl (there_blk n6 (n := 7) (by show 7 ≤ 7; omega)) info_d (by simp [Value.oneCell']) ?_
    have m6 := blk_whole n6 (cs := #[.int .i64 (s1 : Int), .slice A' l1.length cap', .slice A1' q1.length cap1', .int .i64 (left1 : Int), .bool off1, .bool full1, .int .i64 (ops1 : Int)]) rfl
    have ms := ns.cellsF n6 [.int .i64 (s1 : Int), .slice A' l1.length cap', .slice A1' q1.length cap1', .int .i64 (left1 : Int), .bool off1, .bool full1, .int .i64 (ops1 : Int)] 0 (hF2 _ (by omega) (by omega)) hw0 (by omega)
    have m9 := blk_whole_far n9 (g' := w.heap.size + 2) (by omega) [.int .i64 (s1 : Int), .slice A' l1.length cap', .slice A1' q1.length cap1', .int .i64 (left1 : Int), .bool off1, .bool full1, .int .i64 (ops1 : Int)] 0
    refine hK.out _ _ m9 (fun _ => ?_)
    clear hK K
    refine pure_ (i := 6) (N := some 7) (v := ?_) (a' := ?_) #[true, true, true, true, true, true, true] rfl rfl (by kernel_rfl) (fun _ _ _ h => h) (Or.inl ⟨by rfl, ?_⟩) ?_ ?_
    rotate_left
    · intro w'
      go_simp
      with_reducible rfl
    rotate_left
    · simp only [Act.put, List.setIfInBounds_toArray, List.set_cons_zero, List.set_cons_succ]
      rfl
    refine done_ (by kernel_rfl) ?_
    try go_wp2
    refine bodyPost_ret (results_ct rfl _ _ _ 32 _ (0, 0) _ rfl m6 Try.underlying32 rfl info_d) rfl ⟨_, _, _, _, ?_, ms, ⟨s, HD.out.symm⟩⟩
    rfl
  have t1 : (kind == 1) = false := beq_eq_false_iff_ne.mpr k1
  by_cases k2 : kind = 2
  · have t2 : (kind == 2) = true := beq_iff_eq.mpr k2
    have HD := Lib.hid (show doesD ⟨ds, dl, dc, left, off, full, ops⟩ kind at_ n s is keep = cut ⟨ds, dl, dc, left, off, full, ops⟩ n by unfold doesD; rw [if_neg k0, if_neg k1, if_pos k2])
    have hcut := cut_calls w1 p F _ cs.pd n hn1
    clear k0 k1 k2
    go_wp2_with fail
    refine hcut.mono ?_
    rintro e w2 ⟨rfl, hp⟩
    have ds2 := cs.prog hp.post
    have d4 := hp.2.1.blk c4 (fun e => by have := hlt _ e; omega)
    have d5 := hp.2.1.blk c5 (fun e => by have := hlt _ e; omega)
    have d6 := hp.2.1.blk c6 (fun e => by have := hlt _ e; omega)
    have hF2 : ∀ g, w.heap.size ≤ g → g < w.heap.size + 3 → ¬ ext F w1 w2 g := fun g g1 g2 e => by
      rcases e with e | e
      · have := hlt _ e; omega
      · omega
    obtain ⟨u0, u1, u2, u3, u4, u5, u6⟩ := blk7 d5
    obtain ⟨v0, v1, v2, v3, v4, v5, v6⟩ := blk7 d4
    have g3 := d4.frozen 3
    have q4 := d4.set_ 3 (.int .i64 (max n 0))
    have q6 := d6.far (p := ⟨w.heap.size, 3, none⟩) (show w.heap.size + 2 ≠ w.heap.size by omega) (.int .i64 (max n 0))
    have hst := (ds2.far (j := 3) d4 (hF2 _ (Nat.le_refl _) (by omega)) hw0 (Nat.le_refl _) (.int .i64 (max n 0))).same (dr' := cut ⟨ds, dl, dc, left, off, full, ops⟩ n) rfl rfl
    have hq6 := hF2 (w.heap.size + 2) (by omega) (by omega)
    clear c4 c5 c6 cs hp ds2 d4 d5 d6 hcut y0 y1 y2 y3 y4 y5 y6 z0 z1 z2 z3 z4 z5 z6
    have HB := Lib.hid (blk_whole q6 (cs := #[.int .i64 (ds : Int), (.slice A dl.length cap), (.slice A1 dc.length cap1), .int .i64 (max n 0), .bool off, .bool full, .int .i64 (ops : Int)]) rfl)
    have HST := Lib.hid (hst.cellsF q6 [.int .i64 (ds : Int), (.slice A dl.length cap), (.slice A1 dc.length cap1), .int .i64 (max n 0), .bool off, .bool full, .int .i64 (ops : Int)] 0 hq6 hw0 (by omega))
    obtain ⟨x0, x1, x2, x3, x4, x5, x6⟩ := blk7 q4
    obtain ⟨y0, y1, y2, y3, y4, y5, y6⟩ := blk7 q6
    have f0 := q6.frozen 0
    have f1 := q6.frozen 1
    have f2 := q6.frozen 2
    have f3 := q6.frozen 3
    have f4 := q6.frozen 4
    have f5 := q6.frozen 5
    have f6 := q6.frozen 6
    clear q4 q6 hst
    go_wp2
    refine bodyPost_ret (results_ct rfl _ _ _ 32 _ (0, 0) _ rfl HB.out Try.underlying32 rfl info_d) rfl ⟨cut ⟨ds, dl, dc, left, off, full, ops⟩ n, _, _, _, ?_, HST.out, ?_⟩
    · show _ = Ending.returned (.tuple #[.agg (dcells (cut ⟨ds, dl, dc, left, off, full, ops⟩ n) _ _), _]); unfold dcells cut; simp only [Int.toNat_of_nonneg (show 0 ≤ max n 0 by omega)]; rfl
    · exact ⟨s, HD.out.symm⟩
  have t2 : (kind == 2) = false := beq_eq_false_iff_ne.mpr k2
  by_cases k3 : kind = 3
  · have t3 : (kind == 3) = true := beq_iff_eq.mpr k3
    have HD := Lib.hid (show doesD ⟨ds, dl, dc, left, off, full, ops⟩ kind at_ n s is keep = fill ⟨ds, dl, dc, left, off, full, ops⟩ is by unfold doesD; rw [if_neg k0, if_neg k1, if_neg k2, if_pos k3])
    have hfill := fill_calls w1 p F _ cs.pd is
    clear k0 k1 k2 k3
    go_wp2_with fail
    refine hfill.mono ?_
    rintro e w2 ⟨rfl, hp⟩
    have ds2 := cs.prog hp.post
    have d4 := hp.2.1.blk c4 (fun e => by have := hlt _ e; omega)
    have d5 := hp.2.1.blk c5 (fun e => by have := hlt _ e; omega)
    have d6 := hp.2.1.blk c6 (fun e => by have := hlt _ e; omega)
    have hF2 : ∀ g, w.heap.size ≤ g → g < w.heap.size + 3 → ¬ ext F w1 w2 g := fun g g1 g2 e => by
      rcases e with e | e
      · have := hlt _ e; omega
      · omega
    obtain ⟨u0, u1, u2, u3, u4, u5, u6⟩ := blk7 d5
    obtain ⟨v0, v1, v2, v3, v4, v5, v6⟩ := blk7 d4
    have g3 := d4.frozen 5
    have q4 := d4.set_ 5 (.bool is)
    have q6 := d6.far (p := ⟨w.heap.size, 5, none⟩) (show w.heap.size + 2 ≠ w.heap.size by omega) (.bool is)
    have hst := (ds2.far (j := 5) d4 (hF2 _ (Nat.le_refl _) (by omega)) hw0 (Nat.le_refl _) (.bool is)).same (dr' := fill ⟨ds, dl, dc, left, off, full, ops⟩ is) rfl rfl
    have hq6 := hF2 (w.heap.size + 2) (by omega) (by omega)
    clear c4 c5 c6 cs hp ds2 d4 d5 d6 hfill y0 y1 y2 y3 y4 y5 y6 z0 z1 z2 z3 z4 z5 z6
    have HB := Lib.hid (blk_whole q6 (cs := #[.int .i64 (ds : Int), (.slice A dl.length cap), (.slice A1 dc.length cap1), .int .i64 (left : Int), .bool off, .bool is, .int .i64 (ops : Int)]) rfl)
    have HST := Lib.hid (hst.cellsF q6 [.int .i64 (ds : Int), (.slice A dl.length cap), (.slice A1 dc.length cap1), .int .i64 (left : Int), .bool off, .bool is, .int .i64 (ops : Int)] 0 hq6 hw0 (by omega))
    obtain ⟨x0, x1, x2, x3, x4, x5, x6⟩ := blk7 q4
    obtain ⟨y0, y1, y2, y3, y4, y5, y6⟩ := blk7 q6
    have f0 := q6.frozen 0
    have f1 := q6.frozen 1
    have f2 := q6.frozen 2
    have f3 := q6.frozen 3
    have f4 := q6.frozen 4
    have f5 := q6.frozen 5
    have f6 := q6.frozen 6
    clear q4 q6 hst
    go_wp2
    refine bodyPost_ret (results_ct rfl _ _ _ 32 _ (0, 0) _ rfl HB.out Try.underlying32 rfl info_d) rfl ⟨fill ⟨ds, dl, dc, left, off, full, ops⟩ is, _, _, _, ?_, HST.out, ?_⟩
    · rfl
    · exact ⟨s, HD.out.symm⟩
  have t3 : (kind == 3) = false := beq_eq_false_iff_ne.mpr k3
  by_cases k4 : kind = 4
  · have t4 : (kind == 4) = true := beq_iff_eq.mpr k4
    have HD := Lib.hid (show doesD ⟨ds, dl, dc, left, off, full, ops⟩ kind at_ n s is keep = crash ⟨ds, dl, dc, left, off, full, ops⟩ keep n by unfold doesD; rw [if_neg k0, if_neg k1, if_neg k2, if_neg k3, if_pos k4])
    have hcc : dc.length ≤ 1000000000 := by have := HN.out.2; simp only at this; omega
    have hkW : ∀ W, Below w0.heap.size w0 W → Kd.C Kd.bool W K keep.length keep := fun W hW => Kd.C_below hk hW
    have hcr := crash_calls w1 p F _ cs.pd HF.out hcc K c keep n (fun W hW => hkW W (Only.below_mine hW cs.fb cs.bl.size cs.bl)) hkc hn0 hn1
    clear k0 k1 k2 k3 k4
    go_wp2_with fail
    refine hcr.mono ?_
    rintro e w2 ⟨rfl, hp⟩
    have ds2 := cs.prog hp
    have d4 := hp.2.blk c4 (fun e => by have := hlt _ e; omega)
    have d5 := hp.2.blk c5 (fun e => by have := hlt _ e; omega)
    have d6 := hp.2.blk c6 (fun e => by have := hlt _ e; omega)
    have hs2 := hp.2.size
    have hF2 : ∀ g, w.heap.size ≤ g → g < w.heap.size + 3 → ¬ ext F w1 w2 g := fun g g1 g2 e => by
      rcases e with e | e
      · have := hlt _ e; omega
      · omega
    have hrc := rcrash_calls w2 _ _ _ ds2.rd HF.out hcc K c keep n (hkW w2 ds2.bl) hkc hn0 hn1
    obtain ⟨u0, u1, u2, u3, u4, u5, u6⟩ := blk7 d5
    obtain ⟨v0, v1, v2, v3, v4, v5, v6⟩ := blk7 d4
    have hv := 0
    clear c4 c5 c6 cs hp hcr y0 y1 y2 y3 y4 y5 y6 z0 z1 z2 z3 z4 z5 z6
    go_wp2_with fail
    refine hrc.mono ?_
    rintro e w3 ⟨lv', cv', rfl, hR3, hb3, o1, o2⟩
    clear hv v0 v1 v2 v3 v4 v5 v6
    have e4 := d4.below hb3
    have e6 := d6.below hb3
    have es := ds2.ref hR3 hb3 o1 o2
    obtain ⟨A', cap', rfl, _⟩ := hR3.secs.form
    obtain ⟨A1', cap1', rfl, _⟩ := hR3.cach.form
    obtain ⟨nl, hnl⟩ : ∃ nl, (crash ⟨ds, dl, dc, left, off, full, ops⟩ keep n).l.length = nl := ⟨_, rfl⟩
    rw [show dcells (crash ⟨ds, dl, dc, left, off, full, ops⟩ keep n) (.slice A' (crash ⟨ds, dl, dc, left, off, full, ops⟩ keep n).l.length cap') (.slice A1' (crash ⟨ds, dl, dc, left, off, full, ops⟩ keep n).cache.length cap1') = #[.int .i64 (ds : Int), .slice A' nl cap', .slice A1' 0 cap1', .int .i64 0, .bool false, .bool full, .int .i64 (ops : Int)] from by rw [hnl]; rfl]
    rw [hnl] at es
    have HNL := Lib.hid hnl
    clear hnl hR3
    have hq4 := hF2 w.heap.size (Nat.le_refl _) (by omega)
    have hq6 := hF2 (w.heap.size + 2) (by omega) (by omega)
    have q4 := blk_whole e4 (cs := #[.int .i64 (ds : Int), .slice A' nl cap', .slice A1' 0 cap1', .int .i64 0, .bool false, .bool full, .int .i64 (ops : Int)]) rfl
    have q6 := blk_whole_far e6 (g' := w.heap.size) (by omega) [.int .i64 (ds : Int), .slice A' nl cap', .slice A1' 0 cap1', .int .i64 0, .bool false, .bool full, .int .i64 (ops : Int)] 0
    have hst := es.cellsF e4 [.int .i64 (ds : Int), .slice A' nl cap', .slice A1' 0 cap1', .int .i64 0, .bool false, .bool full, .int .i64 (ops : Int)] 0 hq4 hw0 (Nat.le_refl _)
    rw [setCells7] at q4 q6 hst
    obtain ⟨v0, v1, v2, v3, v4, v5, v6⟩ := blk7 e4
    have r0 := e4.frozen 0
    have r1 := e4.frozen 1
    have r2 := e4.frozen 2
    have r3 := e4.frozen 3
    have r4 := e4.frozen 4
    have r5 := e4.frozen 5
    have r6 := e4.frozen 6
    clear ds2 d4 d5 d6 e4 e6 hrc o1 o2 hb3 es u0 u1 u2 u3 u4 u5 u6
    have HB := Lib.hid (blk_whole q6 (cs := #[.int .i64 (ds : Int), .slice A' nl cap', .slice A1' 0 cap1', .int .i64 0, .bool false, .bool full, .int .i64 (ops : Int)]) rfl)
    have HST := Lib.hid (hst.cellsF q6 [.int .i64 (ds : Int), .slice A' nl cap', .slice A1' 0 cap1', .int .i64 0, .bool false, .bool full, .int .i64 (ops : Int)] 0 hq6 hw0 (by omega))
    obtain ⟨x0, x1, x2, x3, x4, x5, x6⟩ := blk7 q4
    obtain ⟨y0, y1, y2, y3, y4, y5, y6⟩ := blk7 q6
    have f0 := q6.frozen 0
    have f1 := q6.frozen 1
    have f2 := q6.frozen 2
    have f3 := q6.frozen 3
    have f4 := q6.frozen 4
    have f5 := q6.frozen 5
    have f6 := q6.frozen 6
    clear q4 q6 hst
    go_wp2
    refine bodyPost_ret (results_ct rfl _ _ _ 32 _ (0, 0) _ rfl HB.out Try.underlying32 rfl info_d) rfl ⟨crash ⟨ds, dl, dc, left, off, full, ops⟩ keep n, _, _, _, ?_, HST.out, ?_⟩
    · rw [← HNL.out]; rfl
    · exact ⟨s, HD.out.symm⟩
  have t4 : (kind == 4) = false := beq_eq_false_iff_ne.mpr k4
  have HD := Lib.hid (show doesD ⟨ds, dl, dc, left, off, full, ops⟩ kind at_ n s is keep = ⟨ds, dl, dc, left, off, full, ops⟩ by unfold doesD; rw [if_neg k0, if_neg k1, if_neg k2, if_neg k3, if_neg k4])
  have hcc : dc.length ≤ 1000000000 := by have := HN.out.2; simp only at this; omega
  have hrd := read_calls w1 p F _ cs.pd at_ hcc
  have hrr := rread_calls w1 _ _ _ cs.rd at_ hcc
  obtain ⟨⟨rs, rc⟩, hrs⟩ : ∃ x, rd ⟨ds, dl, dc, left, off, full, ops⟩ at_ = x := ⟨_, rfl⟩
  rw [hrs] at hrd hrr
  have heq : (rs.toList == rs.toList) = true := by simp
  clear k0 k1 k2 k3 k4 hrs
  rw [dcells_mk] at hrr
  go_wp2_with fail
  refine hrd.mono ?_
  rintro e w2 ⟨rfl, rfl⟩
  go_wp2_with fail
  refine hrr.mono ?_
  rintro e w3 ⟨rfl, hb3⟩
  have q4 := c4.below hb3
  have q6 := c6.below hb3
  have hst := cs.below hb3
  have hq6 : ¬ F (w.heap.size + 2) := fun e => by have := hlt _ e; omega
  clear c4 c5 c6 cs hb3 hrd hrr y0 y1 y2 y3 y4 y5 y6 z0 z1 z2 z3 z4 z5 z6
  have HB := Lib.hid (blk_whole q6 (cs := #[.int .i64 (ds : Int), (.slice A dl.length cap), (.slice A1 dc.length cap1), .int .i64 (left : Int), .bool off, .bool full, .int .i64 (ops : Int)]) rfl)
  have HST := Lib.hid (hst.cellsF q6 [.int .i64 (ds : Int), (.slice A dl.length cap), (.slice A1 dc.length cap1), .int .i64 (left : Int), .bool off, .bool full, .int .i64 (ops : Int)] 0 hq6 hw0 (by omega))
  obtain ⟨x0, x1, x2, x3, x4, x5, x6⟩ := blk7 q4
  obtain ⟨y0, y1, y2, y3, y4, y5, y6⟩ := blk7 q6
  have f0 := q6.frozen 0
  have f1 := q6.frozen 1
  have f2 := q6.frozen 2
  have f3 := q6.frozen 3
  have f4 := q6.frozen 4
  have f5 := q6.frozen 5
  have f6 := q6.frozen 6
  clear q4 q6 hst
  go_wp2
  refine bodyPost_ret (results_ct rfl _ _ _ 32 _ (0, 0) _ rfl HB.out Try.underlying32 rfl info_d) rfl ⟨⟨ds, dl, dc, left, off, full, ops⟩, _, _, _, ?_, HST.out, ?_⟩
  · rfl
  · exact ⟨s, HD.out.symm⟩
end Go.Proofs.Ytohflbmmglmhhaa.Dk
