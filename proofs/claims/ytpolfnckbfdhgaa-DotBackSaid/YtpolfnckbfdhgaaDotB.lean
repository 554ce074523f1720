/- dot: Put and Text. -/
import Derived.Test.YtpolfnckbfdhgaaDotA
import Derived.Test.YtpolfnckbfdhgaaAid
namespace Go.Proofs.Ytpolfnckbfdhgaa.Dot
open Go.RowKit Go.Proofs.Ytpolfnckbfdhgaa.Mem Go.Proofs.YtpolfnckbfdhgaaW.PrintWords Go.Proofs.YtpolfnckbfdhgaaW.PrintLast Go.Proofs.YtpolfnckbfdhgaaW.PrintMore
set_option linter.unusedVariables false
set_option linter.unusedSimpArgs false
def trim (x : List UInt8) : List UInt8 := Lib.trimPrefix x [46]
/-- a line is put -/
def put (s : St) (kind : Int) (x : List UInt8) : St :=
  if s.ended = true then s else if kind ≠ 1 then ⟨s.T, true, s.ended⟩ else if x = [46] then ⟨s.T, s.bad, true⟩ else ⟨s.T ++ (trim x ++ [13, 10]), s.bad, s.ended⟩
def PutPost (w : World) (b : Nat) (F : Nat → Prop) (most : Int) (s : St) (w' : World) : Prop := Bd w' b (ext F w w') most s ∧ Only F w w'
theorem bl_set {w : World} {b i : Nat} {most : Int} {p v u : Value} {l : List UInt8} {n : Nat} {bad ended : Bool} {cs' : Array Value} (h : Bl w b 61 (bcells most p v n bad ended) 1 v l) (hc : (bcells most p v n bad ended).setIfInBounds i u = cs') (h1 : cs'[1]? = some p) (h2 : cs'[2]? = some v) (h6 : cs'.size = 6) :
    Bl (w.setCell ⟨b, i, none⟩ u) b 61 cs' 1 v l :=
  ⟨hc ▸ h.blk.set_ i u, by rw [h1]; exact h.addr, h2, h.row.far (p := ⟨b, i, none⟩) h.nown _, h.ne, by rw [h6]; exact h.lies⟩
theorem bd_bad {w : World} {b : Nat} {F : Nat → Prop} {most : Int} {T : List UInt8} {bad ended : Bool} (h : Bd w b F most ⟨T, bad, ended⟩) : Bd (w.setCell ⟨b, 4, none⟩ (.bool true)) b F most ⟨T, true, ended⟩ ∧ Only F w (w.setCell ⟨b, 4, none⟩ (.bool true)) := by
  obtain ⟨p, v, l, h⟩ := h
  exact ⟨⟨p, v, l, bl_set h.bl rfl rfl rfl rfl, h.all, h.len, h.nil, h.fb, fun k hk => by have := h.flt k hk; simpa [World.setCell] using this, h.fv⟩, (Only.refl F w).put h.fb 4 _⟩
theorem bd_end {w : World} {b : Nat} {F : Nat → Prop} {most : Int} {T : List UInt8} {bad ended : Bool} (h : Bd w b F most ⟨T, bad, ended⟩) : Bd (w.setCell ⟨b, 5, none⟩ (.bool true)) b F most ⟨T, bad, true⟩ ∧ Only F w (w.setCell ⟨b, 5, none⟩ (.bool true)) := by
  obtain ⟨p, v, l, h⟩ := h
  exact ⟨⟨p, v, l, bl_set h.bl rfl rfl rfl rfl, h.all, h.len, h.nil, h.fb, fun k hk => by have := h.flt k hk; simpa [World.setCell] using this, h.fv⟩, (Only.refl F w).put h.fb 5 _⟩
theorem put_post {w w1 : World} {b : Nat} {F : Nat → Prop} {most : Int} {s s' : St} (h0 : Bd w b F most s) (h : Bd w1 b F most s' ∧ Only F w w1) (o : Obj) : PutPost w b F most s' (w1.alloc o) :=
  ⟨(h.1.below ((Below.refl _ w1).alloc (Nat.le_refl _) o)).mono (fun k hk => .inl hk) (ext_lt h0.lt (h.2.alloc o).size), h.2.alloc o⟩
set_option maxHeartbeats 1000000 in
set_option maxRecDepth 100000 in
theorem put_calls (w : World) (b : Nat) (F : Nat → Prop) (most : Int) (s : St) (kind : Int) (x : ByteArray) (h : Bd w b F most s) (hl : s.T.length + x.size ≤ 900000) :
    Calls Try.prog 11 #[.pointer (some ⟨b, 0, none⟩), .agg #[.int .i64 kind, .string x]] w fun e w' => e = .returned (.bool (put s kind x.data.toList).ended) ∧ PutPost w b F most (put s kind x.data.toList) w' := by
  obtain ⟨T, bad, ended⟩ := s
  have hB := h
  obtain ⟨p, v, l, h⟩ := h
  simp only at h hl
  obtain ⟨c0, c3, c4, c5⟩ := h.cells
  have f4 := h.bl.blk.frozen 4
  have f5 := h.bl.blk.frozen 5
  have hblt := h.bl.blk.lt
  have hB1 := hB.below ((Below.refl _ w).alloc (Nat.le_refl _) (.cells #[.int .i64 kind, .string x] 32))
  have hO1 : Only F w (w.alloc (.cells #[.int .i64 kind, .string x] 32)) := (Only.refl F w).alloc _
  unfold put
  simp only
  cases ended with
  | true =>
    go_enter Try.func11, Try.ntmps11
    go_wp2
    go_ret
    exact ⟨rfl, hB1.mono (fun k hk => .inl hk) (ext_lt hB.lt hO1.size), hO1⟩
  | false =>
    by_cases hk : kind = 1
    · subst hk
      have hxt : x.toList = x.data.toList := Aid.tl x
      by_cases hx : x.data.toList = [46]
      · have hxb : (x.toList == [46]) = true := by rw [hxt, hx]; rfl
        have e1 : (if (false : Bool) = true then (⟨T, bad, false⟩ : St) else if (1 : Int) ≠ 1 then ⟨T, true, false⟩ else if x.data.toList = [46] then ⟨T, bad, true⟩ else ⟨T ++ (trim x.data.toList ++ [13, 10]), bad, false⟩) = ⟨T, bad, true⟩ := by rw [if_neg (by simp), if_neg (by simp), if_pos hx]
        rw [e1]
        clear e1 hx hxt
        go_enter Try.func11, Try.ntmps11
        go_wp2
        go_ret
        exact ⟨rfl, put_post hB (bd_end hB) _⟩
      · have hxb : (x.toList == [46]) = false := by rw [hxt]; exact beq_eq_false_iff_ne.2 hx
        have e1 : (if (false : Bool) = true then (⟨T, bad, false⟩ : St) else if (1 : Int) ≠ 1 then ⟨T, true, false⟩ else if x.data.toList = [46] then ⟨T, bad, true⟩ else ⟨T ++ (trim x.data.toList ++ [13, 10]), bad, false⟩) = ⟨T ++ (trim x.data.toList ++ [13, 10]), bad, false⟩ := by rw [if_neg (by simp), if_neg (by simp), if_neg hx]
        rw [e1]
        clear e1 hx hxt
        go_enter Try.func11, Try.ntmps11
        go_wp2_with fail
        refine (Try.strings_TrimPrefix x ⟨#[46]⟩ _).mono ?_
        rintro e w1 ⟨rfl, rfl⟩
        have ht : (Lib.trimPrefix x.data.toList (⟨#[46]⟩ : ByteArray).data.toList) = trim x.data.toList := rfl
        simp only [ht]
        have htl : (trim x.data.toList).length ≤ x.size := by
          unfold trim Lib.trimPrefix
          split
          · rw [List.length_drop]; simp
          · simp
        obtain ⟨y, hy⟩ : ∃ y, (⟨(trim x.data.toList).toArray⟩ : ByteArray) = y := ⟨_, rfl⟩
        have HY : Hid (trim x.data.toList = y.data.toList) := by show _ = _; rw [← hy]
        have hyz : y.size ≤ 900000 := by have : y.size = (trim x.data.toList).length := by rw [← hy]; rfl
                                         omega
        have hyz2 : T.length + y.size ≤ 900000 := by have : y.size = (trim x.data.toList).length := by rw [← hy]; rfl
                                                     omega
        simp only [hy]
        clear ht hy htl
        go_wp2_with fail
        have hss : (y ++ (⟨#[13, 10]⟩ : ByteArray)).size = y.size + 2 := by rw [ByteArray.size_append]; rfl
        refine (add_calls _ b F most T bad false (y ++ (⟨#[13, 10]⟩ : ByteArray)) hB1 (by omega) (by omega)).mono ?_
        rintro e w2 ⟨rfl, hp, ho⟩
        have hall : Only F w w2 := hO1.trans ho
        obtain ⟨p2, v2, l2, h2⟩ := hp
        obtain ⟨d0, d3, d4, d5⟩ := h2.cells
        go_wp2
        go_ret
        refine ⟨rfl, ?_, hall⟩
        have e2 : T ++ (trim x.data.toList ++ [13, 10]) = T ++ (y ++ (⟨#[13, 10]⟩ : ByteArray)).data.toList := by rw [HY.out]; simp
        rw [e2]
        exact Bd.mono ⟨p2, v2, l2, h2⟩ (fun k hk => hk.imp_right fun e => ⟨by have := e.1; simp at this; omega, e.2⟩) (ext_lt hB.lt hall.size)
    · have hkb : (kind != 1) = true := bne_iff_ne.mpr hk
      have e1 : (if (false : Bool) = true then (⟨T, bad, false⟩ : St) else if kind ≠ 1 then ⟨T, true, false⟩ else if x.data.toList = [46] then ⟨T, bad, true⟩ else ⟨T ++ (trim x.data.toList ++ [13, 10]), bad, false⟩) = ⟨T, true, false⟩ := by rw [if_neg (by simp), if_pos hk]
      rw [e1]
      clear e1
      go_enter Try.func11, Try.ntmps11
      go_wp2
      go_ret
      exact ⟨rfl, put_post hB (bd_bad hB) _⟩
/-- what a body tells -/
def text (most : Int) (s : St) : List UInt8 × Int := if s.bad = true then ([], 480) else if most < (s.T.length : Int) then ([], 2) else (s.T, 0)
set_option maxHeartbeats 1000000 in
set_option maxRecDepth 100000 in
theorem text_calls (w : World) (b : Nat) (F : Nat → Prop) (most : Int) (s : St) (h : Bd w b F most s) (hl : s.T.length ≤ 1000000) :
    Calls Try.prog 13 #[.pointer (some ⟨b, 0, none⟩)] w fun e w' => e = .returned (.tuple #[.string ⟨(text most s).1.toArray⟩, .int .i64 (text most s).2]) ∧ (Bd w' b F most s ∧ Only F w w') := by
  obtain ⟨T, bad, ended⟩ := s
  have hB := h
  obtain ⟨p, v, l, h⟩ := h
  simp only at h hl
  obtain ⟨c0, c3, c4, c5⟩ := h.cells
  unfold text
  simp only
  cases bad with
  | true =>
    rw [if_pos rfl]
    go_enter Try.func13, Try.ntmps13
    go_wp2
    go_ret2
    exact ⟨rfl, hB, Only.refl _ _⟩
  | false =>
    rw [if_neg (by simp)]
    by_cases hm : most < (T.length : Int)
    · rw [if_pos hm]
      go_enter Try.func13, Try.ntmps13
      go_wp2
      go_quiet (fail)
      go_wp2
      go_ret2
      exact ⟨rfl, hB.below (pw_below_drewN (Below.refl _ w) nq), (Only.refl _ _).drewN nq⟩
    · rw [if_neg hm]
      have hd : decide (most < (T.length : Int)) = false := decide_eq_false hm
      have hlT : l = T := h.all (by omega)
      go_enter Try.func13, Try.ntmps13
      go_wp2
      go_quiet (fail)
      go_wp2_with fail
      have hBl2 : Bl (w.drewN nq) b 61 (bcells most p v T.length false ended) 1 v l := ⟨h.bl.blk.drewN nq, h.bl.addr, h.bl.buf, h.bl.row.keep (fun _ _ => rfl), h.bl.ne, h.bl.lies⟩
      refine (bld_String hBl2 h.nil).mono ?_
      rintro e w2 ⟨rfl, hb2, ho2⟩
      go_wp2
      go_ret2
      have ho3 : Only F w w2 := ((Only.refl F w).drewN nq).trans (ho2.mono h.fv)
      rw [← hlT]
      refine ⟨rfl, ⟨p, v, l, ⟨?_, fun _ => rfl, Nat.le_refl _, h.nil, h.fb, fun k hk => Nat.lt_of_lt_of_le (h.flt k hk) ho3.size, h.fv⟩⟩, ho3⟩
      rw [hlT] at hb2 ⊢
      exact hb2
end Go.Proofs.Ytpolfnckbfdhgaa.Dot
