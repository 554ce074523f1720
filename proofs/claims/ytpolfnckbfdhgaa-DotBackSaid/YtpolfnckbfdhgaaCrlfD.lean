/- crlf: Take: the first line, judged. -/
import Derived.Test.YtpolfnckbfdhgaaCrlfC
namespace Go.Proofs.Ytpolfnckbfdhgaa.Crlf
open Go.RowKit Go.Proofs.Ytpolfnckbfdhgaa.Mem
set_option linter.unusedVariables false
set_option linter.unusedSimpArgs false
/-- a line's kind and text, by a limit -/
def judge (l : List UInt8) (most : Int) : Int × List UInt8 := if most < (l.length : Int) ∨ 998 < l.length then (3, []) else if bad l = true then (2, []) else (1, l)
def lineV (p : Int × List UInt8) : Value := .agg #[.int .i64 p.1, .string ⟨p.2.toArray⟩]
def TakePost (w : World) (b : Nat) (F : Nat → Prop) (m : M) (w' : World) : Prop := Rd w' b (ext F w w') m ∧ Only F w w'
theorem take_post {w W : World} {b : Nat} {F : Nat → Prop} {m : M} (h : Rd w b F m) (ho : Only none_ w W) : TakePost w b F m W :=
  ⟨(h.only ho fun _ _ h => h).mono (fun k hk => .inl hk) (ext_lt h.lt ho.size), ho.mono fun _ h => h.elim⟩
set_option maxHeartbeats 1000000 in
set_option maxRecDepth 100000 in
theorem take_none (w : World) (b : Nat) (F : Nat → Prop) (cur : List UInt8) (cr : Bool) (most : Int) (h : Rd w b F ([], cur, cr)) :
    Calls Try.prog 19 #[.pointer (some ⟨b, 0, none⟩), .int .i64 most] w fun e w' => e = .returned (.tuple #[lineV (0, []), .bool false]) ∧ TakePost w b F ([], cur, cr) w' := by
  have hR := h
  obtain ⟨vw, vt, ps, h, e⟩ := h
  obtain rfl : ps = [] := by simpa using e
  have c0 := h.cells.1
  obtain ⟨A, cap, rfl, _⟩ := h.whole.form
  simp only [List.length_nil] at c0
  have hlt := h.blk.lt
  go_enter Try.func19, Try.ntmps19
  go_wp2
  refine bodyPost_ret (v := .tuple #[lineV (0, []), .bool false]) (by simp [results, Try.results19, go_sem]; rfl) rfl ⟨rfl, take_post hR ?_⟩
  repeat (first | exact Only.refl _ _ | apply Only.alloc | refine Only.setCell ?_ (.inr (by simp)) _)
theorem lcells_cons (v : Value) (l : List UInt8) (ps : List (Value × List UInt8)) : lcells ((v, l) :: ps) = lnCells v l ++ lcells ps := by simp [lcells]
theorem cut1 {w : World} {g off : Nat} {v : Value} {l : List UInt8} {ps : List (Value × List UInt8)} (h : Sl w 65 3 (.slice (some ⟨g, off, none⟩) (ps.length + 1) 1) (ps.length + 1) (lcells ((v, l) :: ps))) : Sl w 65 3 (.slice (some ⟨g, off, none⟩) ps.length 0) ps.length (lcells ps) := by
  have := h.cut (k := 1) (by omega)
  rw [if_pos rfl, lcells_cons] at this
  exact this
theorem cut3 {w : World} {g off cap : Nat} {v : Value} {l : List UInt8} {ps : List (Value × List UInt8)} (h : Sl w 65 3 (.slice (some ⟨g, off, none⟩) (ps.length + 1) cap) (ps.length + 1) (lcells ((v, l) :: ps))) (hc : ¬ cap = 1) : Sl w 65 3 (.slice (some ⟨g, off + 3, none⟩) ps.length (cap - 1)) ps.length (lcells ps) := by
  have := h.cut (k := 1) (by omega)
  rw [if_neg hc, lcells_cons] at this
  exact this
theorem take_some_post {w : World} {b : Nat} {F : Nat → Prop} {vw vt v v' : Value} {l : List UInt8} {ps : List (Value × List UInt8)} {cur : List UInt8} {cr : Bool} (h : Op w b F vw vt ((v, l) :: ps) cur cr) (hs : Sl w 65 3 v' ps.length (lcells ps)) (hv : ∀ k, own v' k → own vw k) (o1 o2 : Obj) :
    TakePost w b F (ps.map (·.2), cur, cr) (((w.setCell ⟨b, 0, none⟩ v').alloc o1).alloc o2) := by
  have nw : ¬ own v' b := fun e => h.whole.type_ne h.blk (by decide) (hv b e)
  have nt : ¬ own vt b := h.kept.type_ne h.blk (by decide)
  have ho : Only F w (((w.setCell ⟨b, 0, none⟩ v').alloc o1).alloc o2) := (((Only.refl F w).put h.fb 0 _).alloc o1).alloc o2
  exact ⟨⟨v', vt, ps, ⟨((h.blk.set_ 0 v').alloc o1).alloc o2, .inl h.fb, ext_lt h.flt ho.size, ((h.kept.far (p := ⟨b, 0, none⟩) nt _).alloc o1).alloc o2, fun k hk => .inl (h.ft k hk), ((hs.far (p := ⟨b, 0, none⟩) nw _).alloc o1).alloc o2, fun k hk => .inl (h.fw k (hv k hk)),
    fun p hp => ⟨(((h.each p (by simp [hp])).1.far (p := ⟨b, 0, none⟩) ((h.each p (by simp [hp])).1.type_ne h.blk (by decide)) _).alloc o1).alloc o2, fun k hk => ⟨.inl ((h.each p (by simp [hp])).2 k hk).1, ((h.each p (by simp [hp])).2 k hk).2⟩⟩⟩, rfl⟩, ho⟩
set_option maxHeartbeats 1000000 in
set_option maxRecDepth 100000 in
theorem take_long1 (w : World) (b : Nat) (F : Nat → Prop) (g off cap n1 c1 : Nat) (A1 : Option Addr) (vt : Value) (l : List UInt8) (ps : List (Value × List UInt8)) (cur : List UInt8) (cr : Bool) (most : Int) (h : Op w b F (.slice (some ⟨g, off, none⟩) (ps.length + 1) cap) vt ((.slice A1 n1 c1, l) :: ps) cur cr) (hp : ps.length ≤ 1000000) (hj : most < (l.length : Int)) :
    Calls Try.prog 19 #[.pointer (some ⟨b, 0, none⟩), .int .i64 most] w fun e w' => e = .returned (.tuple #[lineV (3, []), .bool true]) ∧ TakePost w b F (ps.map (·.2), cur, cr) w' := by
  have c0 := h.cells.1
  have f0 := h.blk.frozen 0
  have hlt := h.blk.lt
  have d0 : w.cell? ⟨g, off, none⟩ = some (.slice A1 n1 c1) := (h.whole.cell rfl (j := 0) (by simp)).trans rfl
  have d1 : w.cell? ⟨g, off + 1, none⟩ = some (.int .i64 (l.length : Int)) := (h.whole.cell rfl (j := 1) (by simp; omega)).trans rfl
  have d2 : w.cell? ⟨g, off + 2, none⟩ = some (.bool (bad l)) := (h.whole.cell rfl (j := 2) (by simp; omega)).trans rfl
  have hg := h.whole.lt (k := g) rfl
  by_cases hcap : cap = 1
  · obtain rfl : cap = 1 := hcap
    go_enter Try.func19, Try.ntmps19
    go_wp2
    refine bodyPost_ret (v := .tuple #[lineV (3, []), .bool true]) (by simp [results, Try.results19, go_sem]; rfl) rfl ⟨rfl, take_some_post h ?_ ?_ _ _⟩
    · exact cut1 h.whole
    · exact fun k hk => hk
  · skip
    go_enter Try.func19, Try.ntmps19
    go_wp2
    refine bodyPost_ret (v := .tuple #[lineV (3, []), .bool true]) (by simp [results, Try.results19, go_sem]; rfl) rfl ⟨rfl, take_some_post h ?_ ?_ _ _⟩
    · exact cut3 h.whole hcap
    · exact fun k hk => hk
set_option maxHeartbeats 1000000 in
set_option maxRecDepth 100000 in
theorem take_long2 (w : World) (b : Nat) (F : Nat → Prop) (g off cap n1 c1 : Nat) (A1 : Option Addr) (vt : Value) (l : List UInt8) (ps : List (Value × List UInt8)) (cur : List UInt8) (cr : Bool) (most : Int) (h : Op w b F (.slice (some ⟨g, off, none⟩) (ps.length + 1) cap) vt ((.slice A1 n1 c1, l) :: ps) cur cr) (hp : ps.length ≤ 1000000) (hj0 : (l.length : Int) ≤ most) (hj : 998 < (l.length : Int)) :
    Calls Try.prog 19 #[.pointer (some ⟨b, 0, none⟩), .int .i64 most] w fun e w' => e = .returned (.tuple #[lineV (3, []), .bool true]) ∧ TakePost w b F (ps.map (·.2), cur, cr) w' := by
  have c0 := h.cells.1
  have f0 := h.blk.frozen 0
  have hlt := h.blk.lt
  have d0 : w.cell? ⟨g, off, none⟩ = some (.slice A1 n1 c1) := (h.whole.cell rfl (j := 0) (by simp)).trans rfl
  have d1 : w.cell? ⟨g, off + 1, none⟩ = some (.int .i64 (l.length : Int)) := (h.whole.cell rfl (j := 1) (by simp; omega)).trans rfl
  have d2 : w.cell? ⟨g, off + 2, none⟩ = some (.bool (bad l)) := (h.whole.cell rfl (j := 2) (by simp; omega)).trans rfl
  have hg := h.whole.lt (k := g) rfl
  by_cases hcap : cap = 1
  · obtain rfl : cap = 1 := hcap
    go_enter Try.func19, Try.ntmps19
    go_wp2
    refine bodyPost_ret (v := .tuple #[lineV (3, []), .bool true]) (by simp [results, Try.results19, go_sem]; rfl) rfl ⟨rfl, take_some_post h ?_ ?_ _ _⟩
    · exact cut1 h.whole
    · exact fun k hk => hk
  · skip
    go_enter Try.func19, Try.ntmps19
    go_wp2
    refine bodyPost_ret (v := .tuple #[lineV (3, []), .bool true]) (by simp [results, Try.results19, go_sem]; rfl) rfl ⟨rfl, take_some_post h ?_ ?_ _ _⟩
    · exact cut3 h.whole hcap
    · exact fun k hk => hk
set_option maxHeartbeats 1000000 in
set_option maxRecDepth 100000 in
theorem take_bad (w : World) (b : Nat) (F : Nat → Prop) (g off cap n1 c1 : Nat) (A1 : Option Addr) (vt : Value) (l : List UInt8) (ps : List (Value × List UInt8)) (cur : List UInt8) (cr : Bool) (most : Int) (h : Op w b F (.slice (some ⟨g, off, none⟩) (ps.length + 1) cap) vt ((.slice A1 n1 c1, l) :: ps) cur cr) (hp : ps.length ≤ 1000000) (hj0 : (l.length : Int) ≤ most) (hj : (l.length : Int) ≤ 998) (hbad : bad l = true) :
    Calls Try.prog 19 #[.pointer (some ⟨b, 0, none⟩), .int .i64 most] w fun e w' => e = .returned (.tuple #[lineV (2, []), .bool true]) ∧ TakePost w b F (ps.map (·.2), cur, cr) w' := by
  have c0 := h.cells.1
  have f0 := h.blk.frozen 0
  have hlt := h.blk.lt
  have d0 : w.cell? ⟨g, off, none⟩ = some (.slice A1 n1 c1) := (h.whole.cell rfl (j := 0) (by simp)).trans rfl
  have d1 : w.cell? ⟨g, off + 1, none⟩ = some (.int .i64 (l.length : Int)) := (h.whole.cell rfl (j := 1) (by simp; omega)).trans rfl
  have d2 : w.cell? ⟨g, off + 2, none⟩ = some (.bool (bad l)) := (h.whole.cell rfl (j := 2) (by simp; omega)).trans rfl
  have hg := h.whole.lt (k := g) rfl
  by_cases hcap : cap = 1
  · obtain rfl : cap = 1 := hcap
    go_enter Try.func19, Try.ntmps19
    go_wp2
    refine bodyPost_ret (v := .tuple #[lineV (2, []), .bool true]) (by simp [results, Try.results19, go_sem]; rfl) rfl ⟨rfl, take_some_post h ?_ ?_ _ _⟩
    · exact cut1 h.whole
    · exact fun k hk => hk
  · skip
    go_enter Try.func19, Try.ntmps19
    go_wp2
    refine bodyPost_ret (v := .tuple #[lineV (2, []), .bool true]) (by simp [results, Try.results19, go_sem]; rfl) rfl ⟨rfl, take_some_post h ?_ ?_ _ _⟩
    · exact cut3 h.whole hcap
    · exact fun k hk => hk
set_option maxHeartbeats 1000000 in
set_option maxRecDepth 100000 in
theorem take_fine (w : World) (b : Nat) (F : Nat → Prop) (g off cap n1 c1 : Nat) (A1 : Option Addr) (vt : Value) (l : List UInt8) (ps : List (Value × List UInt8)) (cur : List UInt8) (cr : Bool) (most : Int) (h : Op w b F (.slice (some ⟨g, off, none⟩) (ps.length + 1) cap) vt ((.slice A1 n1 c1, l) :: ps) cur cr) (hp : ps.length ≤ 1000000) (hj0 : (l.length : Int) ≤ most) (hj : (l.length : Int) ≤ 998) (hbad : bad l = false) :
    Calls Try.prog 19 #[.pointer (some ⟨b, 0, none⟩), .int .i64 most] w fun e w' => e = .returned (.tuple #[lineV (1, l), .bool true]) ∧ TakePost w b F (ps.map (·.2), cur, cr) w' := by
  have c0 := h.cells.1
  have f0 := h.blk.frozen 0
  have hlt := h.blk.lt
  have d0 : w.cell? ⟨g, off, none⟩ = some (.slice A1 n1 c1) := (h.whole.cell rfl (j := 0) (by simp)).trans rfl
  have d1 : w.cell? ⟨g, off + 1, none⟩ = some (.int .i64 (l.length : Int)) := (h.whole.cell rfl (j := 1) (by simp; omega)).trans rfl
  have d2 : w.cell? ⟨g, off + 2, none⟩ = some (.bool (bad l)) := (h.whole.cell rfl (j := 2) (by simp; omega)).trans rfl
  have hg := h.whole.lt (k := g) rfl
  have hK := (kept_lt (l := l) (by omega)).1 (h.each (.slice A1 n1 c1, l) (by simp)).1
  have nK := hK.type_ne h.blk (by decide)
  by_cases hcap : cap = 1
  · obtain rfl : cap = 1 := hcap
    have hcv := ((hK.far (p := ⟨b, 0, none⟩) nK (.slice (some ⟨g, off, none⟩) ps.length 0)).alloc (.cells #[.int .i64 0, .string ⟨#[]⟩] 32)).alloc (.cells #[.slice A1 n1 c1, .int .i64 (l.length : Int), .bool false] 65) |>.str (P := Try.prog) Try.underlying48 Try.underlying5 Try.underlying9
    go_enter Try.func19, Try.ntmps19
    go_wp2
    refine bodyPost_ret (v := .tuple #[lineV (1, l), .bool true]) (by simp [results, Try.results19, go_sem]; rfl) rfl ⟨rfl, take_some_post h ?_ ?_ _ _⟩
    · exact cut1 h.whole
    · exact fun k hk => hk
  · skip
    have hcv := ((hK.far (p := ⟨b, 0, none⟩) nK (.slice (some ⟨g, off + 3, none⟩) ps.length (cap - 1))).alloc (.cells #[.int .i64 0, .string ⟨#[]⟩] 32)).alloc (.cells #[.slice A1 n1 c1, .int .i64 (l.length : Int), .bool false] 65) |>.str (P := Try.prog) Try.underlying48 Try.underlying5 Try.underlying9
    go_enter Try.func19, Try.ntmps19
    go_wp2
    refine bodyPost_ret (v := .tuple #[lineV (1, l), .bool true]) (by simp [results, Try.results19, go_sem]; rfl) rfl ⟨rfl, take_some_post h ?_ ?_ _ _⟩
    · exact cut3 h.whole hcap
    · exact fun k hk => hk
theorem take_some (w : World) (b : Nat) (F : Nat → Prop) (l : List UInt8) (ws : List (List UInt8)) (cur : List UInt8) (cr : Bool) (most : Int) (h : Rd w b F (l :: ws, cur, cr)) (hp : ws.length ≤ 1000000) :
    Calls Try.prog 19 #[.pointer (some ⟨b, 0, none⟩), .int .i64 most] w fun e w' => e = .returned (.tuple #[lineV (judge l most), .bool true]) ∧ TakePost w b F (ws, cur, cr) w' := by
  obtain ⟨vw, vt, ps, h, e⟩ := h
  cases ps with
  | nil => cases e
  | cons p ps =>
    obtain ⟨v, l'⟩ := p
    simp only [List.map_cons, List.cons.injEq] at e
    obtain ⟨rfl, rfl⟩ := e
    obtain ⟨g, off, cap, cu, hvw, _⟩ := h.whole.form_pos (by simp)
    subst hvw
    obtain ⟨A1, c1, hv, _⟩ := (h.each (v, l') (by simp)).1.form
    simp only at hv
    subst hv
    have hp' : ps.length ≤ 1000000 := by simpa using hp
    unfold judge
    by_cases h1 : most < (l'.length : Int)
    · rw [if_pos (.inl h1)]
      exact take_long1 w b F g off cap _ c1 A1 vt l' ps cur cr most h hp' h1
    by_cases h2 : 998 < l'.length
    · rw [if_pos (.inr h2)]
      exact take_long2 w b F g off cap _ c1 A1 vt l' ps cur cr most h hp' (by omega) (by omega)
    rw [if_neg (by omega)]
    cases hb : bad l' with
    | true => exact take_bad w b F g off cap _ c1 A1 vt l' ps cur cr most h hp' (by omega) (by omega) hb
    | false => exact take_fine w b F g off cap _ c1 A1 vt l' ps cur cr most h hp' (by omega) (by omega) hb
end Go.Proofs.Ytpolfnckbfdhgaa.Crlf
