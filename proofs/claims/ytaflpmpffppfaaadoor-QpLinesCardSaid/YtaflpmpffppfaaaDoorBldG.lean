/- strings.Builder, wherever it lies in a block of the call's own (at cells o and o + 1): WriteString and String. -/
import Derived.Test.YtaflpmpffppfaaaDoorProg
import Derived.Test.YtaflpmpffppfaaaDoorMemF
import Derived.Lib.Builder
import Derived.RegionTactic
import Derived.Lib.Hide
namespace Go.Proofs.YtaflpmpffppfaaaDoor.Mem
open Go.RowKit
set_option linter.unusedVariables false
set_option linter.unusedSimpArgs false
theorem bld_size : (Tryd.prog.info? 37).map (·.size) = some 2 := by kernel_rfl
theorem bld_byte : (Tryd.prog.info? 5).map (fun i => (i.zero, i.size, i.bytes)) = some (some (.int .u8 0), 1, 1) := by kernel_rfl
/-- a builder at cell o of block b, of type T, with the bytes l: v its row -/
structure Bl (w : World) (b : Nat) (T : TypeId) (cs : Array Value) (o : Nat) (v : Value) (l : List UInt8) : Prop where
  blk : Blk w b T cs
  addr : cs[o]? = some (.pointer none) ∨ cs[o]? = some (.pointer (some ⟨b, o, none⟩))
  buf : cs[o + 1]? = some v
  row : SlF w 5 v l
  ne : T ≠ 5
  lies : liesAt Tryd.prog Tryd.prog.depth T (cs.size / Tryd.prog.cellsOf T) o 37 1 = true
section
variable {w w' : World} {b o : Nat} {T : TypeId} {cs : Array Value} {v : Value} {l : List UInt8}
theorem Bl.lt (h : Bl w b T cs o v l) : o + 1 < cs.size := (Array.getElem?_eq_some_iff.1 h.buf).1
theorem Bl.nown (h : Bl w b T cs o v l) : ¬ own v b := h.row.type_ne h.blk h.ne
/-- what a write leaves -/
def Wrote (w : World) (b : Nat) (T : TypeId) (cs : Array Value) (o : Nat) (v : Value) (l : List UInt8) (w' : World) : Prop :=
  ∃ v', Bl w' b T ((cs.setIfInBounds o (.pointer (some ⟨b, o, none⟩))).setIfInBounds (o + 1) v') o v' l ∧ Only (fun k => k = b ∨ own v k) w w' ∧ (∀ k, own v' k → own v k ∨ w.heap.size ≤ k)
set_option maxHeartbeats 1000000 in
set_option maxRecDepth 100000 in
theorem bld_copyCheck_used (w : World) (b o : Nat) (h0 : w.cell? ⟨b, o, none⟩ = some (.pointer (some ⟨b, o, none⟩))) :
    Calls Tryd.prog 29 #[.pointer (some ⟨b, o, none⟩)] w fun e w' => e = .returned (.tuple #[]) ∧ w = w' := by
  obtain ⟨j, hj, _⟩ := Option.map_eq_some_iff.1 bld_size
  go_enter Tryd.func29, Tryd.ntmps29
  go_wp2
  rw [Lib.run_neq_ptr_same w _ Tryd.underlying34 hj]
  go_wp2
  go_end0
  exact ⟨rfl, rfl⟩
set_option maxHeartbeats 1000000 in
set_option maxRecDepth 100000 in
theorem bld_copyCheck_fresh (w : World) (b o : Nat) (T : TypeId) (n : Nat) (h0 : w.cell? ⟨b, o, none⟩ = some (.pointer none)) (hsh : w.shape? b = some (T, n)) (hon : o < n) (hfz : w.frozen? ⟨b, o, none⟩ = false)
    (lies : liesAt Tryd.prog Tryd.prog.depth T (n / Tryd.prog.cellsOf T) o 37 1 = true) :
    Calls Tryd.prog 29 #[.pointer (some ⟨b, o, none⟩)] w fun e w' => e = .returned (.tuple #[]) ∧ w' = w.setCell ⟨b, o, none⟩ (.pointer (some ⟨b, o, none⟩)) := by
  obtain ⟨j, hj, hjs⟩ := Option.map_eq_some_iff.1 bld_size
  go_enter Tryd.func29, Tryd.ntmps29
  go_wp2
  rw [Lib.run_to_unsafe w ⟨b, o, none⟩ Tryd.underlying34 Tryd.underlying69 hj (by rw [hjs]; decide) hsh hon]
  simp only [Result.andThen]
  rw [Oper.upon_value]
  go_wp2
  rw [run_callFunc_extern Tryd.func41 (by kernel_rfl) (by kernel_rfl) (by kernel_rfl) (e := Extern.AbiNoEscape.same) (by kernel_rfl)]
  rw [Lib.run_noEscape]
  simp only [Result.andThen]
  rw [Oper.upon_value]
  go_wp2
  rw [Lib.run_from_unsafe w ⟨b, o, none⟩ Tryd.underlying69 Tryd.underlying34 hj hsh lies]
  simp only [Result.andThen]
  rw [Oper.upon_value]
  go_wp2
  go_end0
  exact ⟨rfl, rfl⟩
theorem bld_copyCheck (h : Bl w b T cs o v l) : Calls Tryd.prog 29 #[.pointer (some ⟨b, o, none⟩)] w fun e w' => e = .returned (.tuple #[]) ∧
    (Bl w' b T (cs.setIfInBounds o (.pointer (some ⟨b, o, none⟩))) o v l ∧ Only (· = b) w w') := by
  have hlt := h.lt
  have hset : (cs.setIfInBounds o (.pointer (some ⟨b, o, none⟩)))[o + 1]? = some v := by rw [Array.getElem?_setIfInBounds_ne (by omega)]; exact h.buf
  have hget : (cs.setIfInBounds o (.pointer (some ⟨b, o, none⟩)))[o]? = some (.pointer (some ⟨b, o, none⟩)) := by rw [Array.getElem?_setIfInBounds_self_of_lt (by omega)]
  rcases h.addr with ha | ha
  · refine (bld_copyCheck_fresh w b o T cs.size ((h.blk.cell o).trans ha) (by have := h.blk; unfold Blk at this; simp [World.shape?, this]) (by omega) (h.blk.frozen o) h.lies).mono ?_
    rintro e w' ⟨rfl, rfl⟩
    exact ⟨rfl, ⟨h.blk.set_ o _, .inr hget, hset, h.row.far (p := ⟨b, o, none⟩) h.nown _, h.ne, by rw [Array.size_setIfInBounds]; exact h.lies⟩, (Only.refl (· = b) w).put rfl o _⟩
  · refine (bld_copyCheck_used w b o ((h.blk.cell o).trans ha)).mono ?_
    rintro e w' ⟨rfl, rfl⟩
    have he : cs.setIfInBounds o (.pointer (some ⟨b, o, none⟩)) = cs := by
      apply Array.ext_getElem?
      intro i
      by_cases hi : o = i
      · subst hi; rw [hget, ha]
      · rw [Array.getElem?_setIfInBounds_ne hi]
    rw [he]
    exact ⟨rfl, h, Only.refl _ _⟩
set_option maxHeartbeats 1000000 in
set_option maxRecDepth 100000 in
theorem bld_WriteString2 (h : Bl w b T cs o v l) (s : ByteArray) (hlen : l.length + s.size ≤ 140737488355328) :
    Calls Tryd.prog 16 #[.pointer (some ⟨b, o, none⟩), .string s] w fun e w' => e = .returned (.tuple #[.int .i64 s.size, .nilIface]) ∧ ∃ v', Bl w' b T ((cs.setIfInBounds o (.pointer (some ⟨b, o, none⟩))).setIfInBounds (o + 1) v') o v' (l ++ s.data.toList) ∧ Only (fun k => k = b ∨ own v k) w w' ∧ (∀ k, own v' k → own v k ∨ w.heap.size ≤ k) ∧ (s.size = 0 → v' = v) := by
  obtain ⟨i0, hi, hz0, hz1, hz2⟩ := info_parts bld_byte
  go_enter Tryd.func16, Tryd.ntmps16
  go_wp2_with (go_at_call 29; refine (bld_copyCheck h).mono ?_)
  rintro e w1 ⟨rfl, h1, ho1⟩
  have c1 : w1.cell? ⟨b, o + 1, none⟩ = some v := (h1.blk.cell (o + 1)).trans h1.buf
  have f1 := h1.blk.frozen (o + 1)
  obtain ⟨A0, cap0, hv0⟩ := h1.row.form
  subst hv0
  go_wp2_with (at_builtin; refine wpList_append_slF rfl _ _ 35 9 rfl i0 Tryd.underlying35 Tryd.underlying9 hi hz0 hz1 hz2 rfl h1.row s rfl hlen ?_)
  intro v' w2 hs2 ho2 hv2 hv3
  have HV3 := Lib.hid hv3
  clear hv3
  have hb2 := ho2.blk h1.blk h1.nown
  have c2 : w2.cell? ⟨b, o + 1, none⟩ = some _ := (hb2.cell (o + 1)).trans h1.buf
  have f2 := hb2.frozen (o + 1)
  have hnv' : ¬ own v' b := hs2.type_ne hb2 h.ne
  have hsz := ho1.size
  obtain ⟨A', cap', hv'⟩ := hs2.form
  rw [show (l ++ s.data.toList).length = l.length + s.size by simp] at hv'
  subst hv'
  clear c1 f1
  go_wp2
  go_ret2
  have hlt := h1.lt
  refine ⟨rfl, _, ⟨hb2.set_ (o + 1) _, ?_, ?_, hs2.far (p := ⟨b, o + 1, none⟩) hnv' _, h.ne, by rw [Array.size_setIfInBounds]; exact h1.lies⟩, ?_, (fun k hk => (hv2 k hk).imp_right fun e => by rw [e]; exact hsz), fun e0 => by first | exact HV3.out e0 | exact HV3.out (ByteArray.ext (Array.eq_empty_of_size_eq_zero e0))⟩
  · rw [Array.getElem?_setIfInBounds_ne (by omega)]; exact h1.addr
  · rw [Array.getElem?_setIfInBounds_self_of_lt hlt]
  · exact ((ho1.mono fun k e => .inl e).trans (ho2.mono fun k e => .inr e)).put (.inl rfl) (o + 1) _
theorem bld_WriteString (h : Bl w b T cs o v l) (s : ByteArray) (hlen : l.length + s.size ≤ 140737488355328) :
    Calls Tryd.prog 16 #[.pointer (some ⟨b, o, none⟩), .string s] w fun e w' => e = .returned (.tuple #[.int .i64 s.size, .nilIface]) ∧ Wrote w b T cs o v (l ++ s.data.toList) w' :=
  (bld_WriteString2 h s hlen).mono fun e w' ⟨he, v', h1, h2, h3, _⟩ => ⟨he, v', h1, h2, h3⟩
set_option maxHeartbeats 1000000 in
set_option maxRecDepth 100000 in
theorem bld_String (h : Bl w b T cs o v l) (hv0 : l = [] → v = .slice none 0 0) :
    Calls Tryd.prog 18 #[.pointer (some ⟨b, o, none⟩)] w fun e w' => e = .returned (.string ⟨l.toArray⟩) ∧ (Bl w' b T cs o v l ∧ Only (own v) w w') := by
  rcases h.row with ⟨rfl, rfl⟩ | ⟨g, cap, cur, fz, rfl, hg, h1, h2, h3, h4, h5⟩
  · have c1 : w.drew.cell? ⟨b, o + 1, none⟩ = some (.slice none 0 0) := (h.blk.cell (o + 1)).trans h.buf
    have hSD : (Builtin.unsafeSliceData_ #[35] 58 #[.slice none 0 0]).run Tryd.prog w.drew = .ok (.pointer none) w.drew := rfl
    have hUS : (Builtin.unsafeString_ #[58, 3] 9 #[.pointer none, .int .i64 0]).run Tryd.prog w.drew = .ok (.string ByteArray.empty) w.drew := Lib.run_unsafeString_none w.drew _ _ _ _
    go_enter Tryd.func18, Tryd.ntmps18
    go_wp2
    go_region
    all_goals
      go_wp2
      go_ret
      exact ⟨rfl, ⟨h.blk.drew, h.addr, h.buf, h.row.drew, h.ne, h.lies⟩, (Only.refl _ w).drew⟩
  · have hl0 : l ≠ [] := fun e => by have := hv0 e; cases this
    have hpos : 0 < l.length := List.length_pos_iff.2 hl0
    have c1 : w.drew.cell? ⟨b, o + 1, none⟩ = some (.slice (some ⟨g, 0, none⟩) l.length cap) := (h.blk.cell (o + 1)).trans h.buf
    have hSD : (Builtin.unsafeSliceData_ #[35] 58 #[.slice (some ⟨g, 0, none⟩) l.length cap]).run Tryd.prog w.drew = .ok (.pointer (some ⟨g, 0, none⟩)) w.drew :=
      Lib.run_unsafeSliceData_row _ _ _ _ _ _ (by omega)
    have hUS : (Builtin.unsafeString_ #[58, 3] 9 #[.pointer (some ⟨g, 0, none⟩), .int .i64 l.length]).run Tryd.prog w.drew = .ok (.string ⟨l.toArray⟩) (w.drew.freeze ⟨g, 0, none⟩ l.length) := by
      refine Lib.run_unsafeString_row w.drew 58 3 9 5 Tryd.underlying58 (by kernel_rfl) g cur.size (by have hg' : w.drew.heap[g]? = some (.cells cur 5 fz) := hg; simp [World.shape?, hg']) l hl0 (by omega) (by unfold maxLen at h3; omega) ?_
      intro j x hx
      have hadd : (⟨g, 0, none⟩ : Addr).add j = ⟨g, j, none⟩ := by unfold Addr.add; split <;> simp_all
      rw [hadd]
      show w.cell? _ = _
      rw [cell_of_row w g j cur _ fz hg]
      have hj : j < l.length := (List.getElem?_eq_some_iff.1 hx).1
      have : (cur.toList.take l.length)[j]? = some (.int .u8 x.toNat) := by rw [h5, List.getElem?_map, hx]; rfl
      rw [List.getElem?_take_of_lt hj] at this
      simpa using this
    obtain ⟨hf1, hf2⟩ := h.row.drew.froze
    have hno := h.nown
    have hend : Bl (w.drew.freeze ⟨g, 0, none⟩ l.length) b T cs o (.slice (some ⟨g, 0, none⟩) l.length cap) l ∧ Only (own (.slice (some ⟨g, 0, none⟩) l.length cap)) w (w.drew.freeze ⟨g, 0, none⟩ l.length) :=
      ⟨⟨hf2.blk h.blk.drew hno, h.addr, h.buf, hf1, h.ne, h.lies⟩, ((Only.refl _ w).drew).trans hf2⟩
    have HE : Hid (Bl (w.drew.freeze ⟨g, 0, none⟩ l.length) b T cs o (.slice (some ⟨g, 0, none⟩) l.length cap) l ∧ Only (own (.slice (some ⟨g, 0, none⟩) l.length cap)) w (w.drew.freeze ⟨g, 0, none⟩ l.length)) := hend
    clear hend hf1 hf2 h1 h2 h3 h4 h5 hg hno
    go_enter Tryd.func18, Tryd.ntmps18
    go_wp2
    go_region
    all_goals
      go_wp2
      go_ret
      exact ⟨rfl, HE.out⟩
end
end Go.Proofs.YtaflpmpffppfaaaDoor.Mem
