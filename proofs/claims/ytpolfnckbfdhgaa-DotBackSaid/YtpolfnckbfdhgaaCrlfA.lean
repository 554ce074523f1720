/- crlf: a line under way: what 'grow' does to it. -/
import Derived.Test.YtpolfnckbfdhgaaProg
import Derived.Test.YtpolfnckbfdhgaaMem
import Derived.StillTailTactics
namespace Go.Proofs.Ytpolfnckbfdhgaa.Crlf
open Go.RowKit Go.Proofs.Ytpolfnckbfdhgaa.Mem
set_option linter.unusedVariables false
set_option linter.unusedSimpArgs false
/-- a byte's cell -/
def bv (c : UInt8) : Value := .int .u8 (c.toNat : Int)
/-- has a line CR or LF? -/
def bad (l : List UInt8) : Bool := l.any fun c => c == 13 || c == 10
theorem bad_snoc (l : List UInt8) (c : UInt8) : bad (l ++ [c]) = (bad l || (c == 13 || c == 10)) := by simp [bad, Bool.or_assoc]
/-- a line's three cells -/
def lnCells (vt : Value) (l : List UInt8) : List Value := [vt, .int .i64 (l.length : Int), .bool (bad l)]
/-- the bytes of a line that are kept -/
def Kept (w : World) (vt : Value) (l : List UInt8) : Prop := Sl w 5 1 vt (l.take 998).length ((l.take 998).map bv)
theorem info_u8 : (Try.prog.info? 5).map (fun i => (i.zero, i.size, i.bytes)) = some (some (.int .u8 0), 1, 1) := by kernel_rfl
def GrowPost (w : World) (b : Nat) (vw vt cr : Value) (l : List UInt8) (w' : World) : Prop :=
  ∃ vt', Blk w' b 67 #[vw, vt', .int .i64 (l.length : Int), .bool (bad l), cr] ∧ Kept w' vt' l ∧ Only (fun k => k = b ∨ own vt k) w w' ∧ (∀ k, own vt' k → own vt k ∨ w.heap.size ≤ k)
theorem c13 (c : UInt8) : decide ((c.toNat : Int) = 13) = (c == 13) := by
  rw [Bool.eq_iff_iff, decide_eq_true_eq, beq_iff_eq, ← UInt8.toNat_inj]
  constructor <;> intro h <;> (first | omega | (have : (13 : UInt8).toNat = 13 := rfl; omega))
theorem c10 (c : UInt8) : decide ((c.toNat : Int) = 10) = (c == 10) := by
  rw [Bool.eq_iff_iff, decide_eq_true_eq, beq_iff_eq, ← UInt8.toNat_inj]
  constructor <;> intro h <;> (first | omega | (have : (10 : UInt8).toNat = 10 := rfl; omega))
theorem e13 (c : UInt8) : ((c.toNat : Int) == 13) = (c == 13) := by rw [← c13]; rfl
theorem e10 (c : UInt8) : ((c.toNat : Int) == 10) = (c == 10) := by rw [← c10]; rfl
theorem bor (b1 b2 b3 : Bool) : (b1 || b2 || b3) = (b1 || (b2 || b3)) := by rw [Bool.or_assoc]
theorem kept_lt {w : World} {vt : Value} {l : List UInt8} (h : l.length ≤ 998) : Kept w vt l ↔ Sl w 5 1 vt l.length (l.map bv) := by
  unfold Kept
  rw [List.take_of_length_le h]
theorem kept_ge {w : World} {vt : Value} {l : List UInt8} (c : UInt8) (h : ¬ l.length < 998) : Kept w vt (l ++ [c]) ↔ Kept w vt l := by
  unfold Kept
  rw [List.take_append_of_le_length (by omega)]
theorem own_slice {A : Option Addr} {n c : Nat} {k : Nat} : own (.slice A n c) k ↔ ∃ a, A = some a ∧ a.block = k := by
  unfold own
  cases A with
  | none => simp [Value.ownBlock]
  | some a => simp [Value.ownBlock]
/-- the three stores at the end of grow -/
theorem grow_end {w w1 : World} {b : Nat} {vw vt cr v1 v2 v3 : Value} {l : List UInt8} {c : UInt8} {u2 u3 : Value} (hb1 : Blk w1 b 67 #[vw, vt, u2, u3, cr]) (ho : Only (fun k => k = b ∨ own vt k) w w1) (hk : Kept w1 v1 (l ++ [c])) (hnb : ¬ own v1 b)
    (hw : ∀ k, own v1 k → own vt k ∨ w.heap.size ≤ k) (h2 : v2 = .int .i64 ((l ++ [c]).length : Int)) (h3 : v3 = .bool (bad (l ++ [c]))) :
    GrowPost w b vw vt cr (l ++ [c]) (((w1.setCell ⟨b, 1, none⟩ v1).setCell ⟨b, 2, none⟩ v2).setCell ⟨b, 3, none⟩ v3) := by
  subst h2 h3
  exact ⟨v1, ((hb1.set_ 1 v1).set_ 2 _).set_ 3 _, ((hk.far (p := ⟨b, 1, none⟩) hnb _).far (p := ⟨b, 2, none⟩) hnb _).far (p := ⟨b, 3, none⟩) hnb _,
    ((ho.setCell (p := ⟨b, 1, none⟩) (.inl (.inl rfl)) _).setCell (p := ⟨b, 2, none⟩) (.inl (.inl rfl)) _).setCell (p := ⟨b, 3, none⟩) (.inl (.inl rfl)) _, hw⟩
/-- the two stores, where the text is as long as it may be -/
theorem grow_end2 {w : World} {b : Nat} {vw vt cr v2 v3 : Value} {l : List UInt8} {c : UInt8} {u2 u3 : Value} (hb1 : Blk w b 67 #[vw, vt, u2, u3, cr]) (hk : Kept w vt (l ++ [c])) (hnb : ¬ own vt b)
    (h2 : v2 = .int .i64 ((l ++ [c]).length : Int)) (h3 : v3 = .bool (bad (l ++ [c]))) :
    GrowPost w b vw vt cr (l ++ [c]) ((w.setCell ⟨b, 2, none⟩ v2).setCell ⟨b, 3, none⟩ v3) := by
  subst h2 h3
  exact ⟨vt, ((hb1.set_ 2 _).set_ 3 _), (hk.far (p := ⟨b, 2, none⟩) hnb _).far (p := ⟨b, 3, none⟩) hnb _,
    (((Only.refl _ w).setCell (p := ⟨b, 2, none⟩) (.inl (.inl rfl)) _).setCell (p := ⟨b, 3, none⟩) (.inl (.inl rfl)) _), fun k h => .inl h⟩
set_option maxHeartbeats 1000000 in
set_option maxRecDepth 100000 in
theorem grow_lt (w : World) (b : Nat) (vw cr : Value) (A : Option Addr) (cap : Nat) (l : List UInt8) (c : UInt8) (hb : Blk w b 67 #[vw, .slice A l.length cap, .int .i64 (l.length : Int), .bool (bad l), cr]) (hs : Sl w 5 1 (.slice A l.length cap) l.length (l.map bv)) (hl : l.length < 998) :
    Calls Try.prog 35 #[.pointer (some ⟨b, 1, none⟩), .int .u8 (c.toNat : Int)] w fun e w' => e = .returned (.tuple #[]) ∧ GrowPost w b vw (.slice A l.length cap) cr (l ++ [c]) w' := by
  obtain ⟨i0, hi, hz0, hz1, hz2⟩ := info_parts info_u8
  have c1 : w.cell? ⟨b, 1, none⟩ = some (.slice A l.length cap) := (hb.cell 1).trans rfl
  have c2 : w.cell? ⟨b, 2, none⟩ = some (.int .i64 (l.length : Int)) := (hb.cell 2).trans rfl
  have c3 : w.cell? ⟨b, 3, none⟩ = some (.bool (bad l)) := (hb.cell 3).trans rfl
  have f1 := hb.frozen 1
  have f2 := hb.frozen 2
  have f3 := hb.frozen 3
  have hblt := hb.lt
  have hnb : ¬ own (.slice A l.length cap) b := hs.type_ne hb (by decide)
  have hd : decide ((l.length : Int) < 998) = true := decide_eq_true (by omega)
  go_enter Try.func35, Try.ntmps35
  go_wp2_with (at_builtin; refine wpList_append_sl rfl _ _ 48 48 rfl 5 i0 (.int .u8 0) 1 1 Try.underlying48 hi hz0 hz1 hz2 rfl _ _ _ rfl (hs.alloc _) _ 1 [bv c] rfl (src_blk (Blk.new w 5 #[bv c]) Try.underlying48 1 1 rfl (by simp [bv, Value.oneCell'])) ?c1 ?c2 ?_)
  case c1 => unfold maxLen; omega
  case c2 => omega
  intro A' cap' w1 hs1 ho1 hw1
  have hb1 := ho1.blk (hb.alloc _) hnb
  have ho1' := ((Only.refl (fun k => k = b ∨ own (.slice A l.length cap) k) w).alloc (.cells #[bv c] 5)).trans (ho1.mono fun k h => .inr h)
  have d1 : w1.cell? ⟨b, 1, none⟩ = some (.slice A l.length cap) := (hb1.cell 1).trans rfl
  have d2 : w1.cell? ⟨b, 2, none⟩ = some (.int .i64 (l.length : Int)) := (hb1.cell 2).trans rfl
  have d3 : w1.cell? ⟨b, 3, none⟩ = some (.bool (bad l)) := (hb1.cell 3).trans rfl
  have g1 := hb1.frozen 1
  have g2 := hb1.frozen 2
  have g3 := hb1.frozen 3
  clear c1 c2 c3 f1 f2 f3 hd
  have hk : Kept w1 (.slice A' (l.length + 1) cap') (l ++ [c]) := (kept_lt (by simp; omega)).2 (by rw [List.length_append, List.map_append]; exact hs1)
  have hnb1 : ¬ own (.slice A' (l.length + 1) cap') b := hs1.type_ne hb1 (by decide)
  have hw' : ∀ k, own (.slice A' (l.length + 1) cap') k → own (.slice A l.length cap) k ∨ w.heap.size ≤ k := fun k h => (hw1 k h).imp_right fun e => by rw [e]; simp
  by_cases hbd : bad l = true
  · go_wp2
    go_end0
    exact ⟨rfl, grow_end hb1 ho1' hk hnb1 hw' (by simp) (by rw [bad_snoc, hbd]; rfl)⟩
  · have hbf : bad l = false := by simpa using hbd
    by_cases h13 : c = 13
    · subst h13
      go_wp2
      go_end0
      exact ⟨rfl, grow_end hb1 ho1' hk hnb1 hw' (by simp) (by rw [bad_snoc, hbf]; rfl)⟩
    · have hn13 : ¬ ((c.toNat : Int) = 13) := fun e => h13 (by have := c13 c; rw [decide_eq_true e] at this; simpa using this.symm)
      clear hbd h13
      go_wp2
      go_end0
      exact ⟨rfl, grow_end hb1 ho1' hk hnb1 hw' (by simp) (by rw [bad_snoc, hbf, Bool.false_or, e13, e10])⟩
set_option maxHeartbeats 1000000 in
set_option maxRecDepth 100000 in
theorem grow_ge (w : World) (b : Nat) (vw cr vt : Value) (l : List UInt8) (c : UInt8) (hb : Blk w b 67 #[vw, vt, .int .i64 (l.length : Int), .bool (bad l), cr]) (hs : Kept w vt l) (hl : ¬ l.length < 998) (hm : l.length ≤ 1000000) :
    Calls Try.prog 35 #[.pointer (some ⟨b, 1, none⟩), .int .u8 (c.toNat : Int)] w fun e w' => e = .returned (.tuple #[]) ∧ GrowPost w b vw vt cr (l ++ [c]) w' := by
  have c2 : w.cell? ⟨b, 2, none⟩ = some (.int .i64 (l.length : Int)) := (hb.cell 2).trans rfl
  have c3 : w.cell? ⟨b, 3, none⟩ = some (.bool (bad l)) := (hb.cell 3).trans rfl
  have f2 := hb.frozen 2
  have f3 := hb.frozen 3
  have hnb : ¬ own vt b := hs.type_ne hb (by decide)
  have hd : decide ((l.length : Int) < 998) = false := decide_eq_false (by omega)
  have hk : Kept w vt (l ++ [c]) := (kept_ge c hl).2 hs
  go_enter Try.func35, Try.ntmps35
  by_cases hbd : bad l = true
  · go_wp2
    go_end0
    exact ⟨rfl, grow_end2 hb hk hnb (by simp) (by rw [bad_snoc, hbd]; rfl)⟩
  · have hbf : bad l = false := by simpa using hbd
    by_cases h13 : c = 13
    · subst h13
      go_wp2
      go_end0
      exact ⟨rfl, grow_end2 hb hk hnb (by simp) (by rw [bad_snoc, hbf]; rfl)⟩
    · have hn13 : ¬ ((c.toNat : Int) = 13) := fun e => h13 (by have := c13 c; rw [decide_eq_true e] at this; simpa using this.symm)
      clear hbd h13
      go_wp2
      go_end0
      exact ⟨rfl, grow_end2 hb hk hnb (by simp) (by rw [bad_snoc, hbf, Bool.false_or, e13, e10])⟩
theorem grow_calls (w : World) (b : Nat) (vw vt cr : Value) (l : List UInt8) (c : UInt8) (hb : Blk w b 67 #[vw, vt, .int .i64 (l.length : Int), .bool (bad l), cr]) (hs : Kept w vt l) (hl : l.length ≤ 1000000) :
    Calls Try.prog 35 #[.pointer (some ⟨b, 1, none⟩), .int .u8 (c.toNat : Int)] w fun e w' => e = .returned (.tuple #[]) ∧ GrowPost w b vw vt cr (l ++ [c]) w' := by
  by_cases h : l.length < 998
  · have hs' := (kept_lt (by omega)).1 hs
    obtain ⟨A, cap, rfl, _⟩ := hs'.form
    exact grow_lt w b vw cr A cap l c hb hs' h
  · exact grow_ge w b vw cr vt l c hb hs h hl
end Go.Proofs.Ytpolfnckbfdhgaa.Crlf
