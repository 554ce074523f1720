/- sha: New, Write, Len. -/
import Derived.Test.YtjmahkpmnajmfaaDoorShaC
import Derived.Deep.RegionHeld3
import Derived.Deep.DrawnRows
namespace Go.Proofs.YtjmahkpmnajmfaaDoor.Sha
open Go.RowKit Go.Proofs.YtjmahkpmnajmfaaDoor.Mem Go.Proofs.YtjmahkpmnajmfaaDoor.X Go.Proofs.YtjmahkpmnajmfaaDoorW.PrintWords Go.Proofs.YtjmahkpmnajmfaaDoorW.PrintLast Go.Proofs.YtjmahkpmnajmfaaDoorW.PrintMore Go.Proofs.YtjmahkpmnajmfaaDoor.Aid
attribute [-simp] Tryd.sizeOf36 Tryd.isAgg36 Tryd.zeroValue36
set_option linter.unusedVariables false
set_option linter.unusedSimpArgs false
/-- a sum under way, in memory -/
def hcells (v : V8) (r : ByteArray) (n : Nat) : Array Value := #[.int .u32 (iv v.a), .int .u32 (iv v.b), .int .u32 (iv v.c), .int .u32 (iv v.d), .int .u32 (iv v.e), .int .u32 (iv v.f), .int .u32 (iv v.g), .int .u32 (iv v.h), .string r, .int .i64 (n : Int)]
/-- whole blocks, taken -/
def eat : Nat → V8 → List UInt8 → V8 × List UInt8
  | 0, v, l => (v, l)
  | f + 1, v, l => if l.length < 64 then (v, l) else eat f (comp v (l.take 64)) (l.drop 64)
theorem Tabs.only {w w' : World} {F : Nat → Prop} (h : Tabs w) (ho : Only F w w') (h1 : ¬ F 1) (h2 : ¬ F 0) : Tabs w' := by
  have hk := h.k 0 (by decide)
  have hb : w.cell? ⟨0, 0, none⟩ = some (.int .u32 (iv vbegin.a)) := h.b 0 (by decide)
  have lk := World.block_lt_of_cell? w _ hk
  have lb := World.block_lt_of_cell? w _ hb
  exact ⟨fun t ht => (World.cell?_of_block (a := ⟨1, t, none⟩) (ho.block _ lk h1)).trans (h.k t ht), fun i hi => (World.cell?_of_block (a := ⟨0, i, none⟩) (ho.block _ lb h2)).trans (h.b i hi)⟩
theorem Tabs.c {w : World} (h : Tabs w) : w.cell? ⟨0, 0, none⟩ = some (.int .u32 (iv vbegin.a)) ∧ w.cell? ⟨0, 1, none⟩ = some (.int .u32 (iv vbegin.b)) ∧ w.cell? ⟨0, 2, none⟩ = some (.int .u32 (iv vbegin.c)) ∧ w.cell? ⟨0, 3, none⟩ = some (.int .u32 (iv vbegin.d)) ∧
    w.cell? ⟨0, 4, none⟩ = some (.int .u32 (iv vbegin.e)) ∧ w.cell? ⟨0, 5, none⟩ = some (.int .u32 (iv vbegin.f)) ∧ w.cell? ⟨0, 6, none⟩ = some (.int .u32 (iv vbegin.g)) ∧ w.cell? ⟨0, 7, none⟩ = some (.int .u32 (iv vbegin.h)) :=
  ⟨h.b 0 (by decide), h.b 1 (by decide), h.b 2 (by decide), h.b 3 (by decide), h.b 4 (by decide), h.b 5 (by decide), h.b 6 (by decide), h.b 7 (by decide)⟩
set_option maxHeartbeats 1000000 in
set_option maxRecDepth 100000 in
theorem new_calls (w : World) (hT : Tabs w) : Calls Tryd.prog 20 #[] w fun e w' => e = .returned (.pointer (some ⟨w.heap.size, 0, none⟩)) ∧ w' = w.alloc (.cells (hcells vbegin ⟨#[]⟩ 0) 48) := by
  obtain ⟨c0, c1, c2, c3, c4, c5, c6, c7⟩ := hT.c
  obtain ⟨v, hv⟩ : ∃ v, vbegin = v := ⟨_, rfl⟩
  simp only [hv] at c0 c1 c2 c3 c4 c5 c6 c7 ⊢
  clear hT hv
  go_enter Tryd.func20, Tryd.ntmps20
  go_wp2
  go_ret
  exact ⟨rfl, rfl⟩
set_option maxHeartbeats 4000000 in
set_option maxRecDepth 100000 in
theorem write_calls (w : World) (hT : Tabs w) (hT0 : 1 < w.heap.size ∧ 0 < w.heap.size) (p : Nat) (hp1 : 1 < p) (hp2 : 0 < p) (v : V8) (r s : ByteArray) (n : Nat) (h : Blk w p 48 (hcells v r n)) (hn : n + s.size ≤ 1000000000) (hr : r.size + s.size ≤ 1000000000) :
    Calls Tryd.prog 21 #[.pointer (some ⟨p, 0, none⟩), .string s] w fun e w' => e = .returned (.tuple #[]) ∧
      (Blk w' p 48 (hcells (eat (r.size + s.size) v (L (r ++ s))).1 (S (eat (r.size + s.size) v (L (r ++ s))).2) (n + s.size)) ∧ Only (· = p) w w') := by
  have c8 : w.cell? ⟨p, 8, none⟩ = some (.string r) := (h.cell 8).trans rfl
  have c9 : w.cell? ⟨p, 9, none⟩ = some (.int .i64 (n : Int)) := (h.cell 9).trans rfl
  have f9 := h.frozen 9
  have HTW := Lib.hid hT
  clear hT
  obtain ⟨N, hN⟩ : ∃ x, n + s.size = x := ⟨_, rfl⟩
  rw [hN]
  have E9 : Hid ((n : Int) + (s.size : Int) = (N : Int)) := Lib.hid (by omega)
  have hB1 : Blk (w.setCell ⟨p, 9, none⟩ (.int .i64 (N : Int))) p 48 (hcells v r N) := by
    have := h.set_ 9 (.int .i64 (N : Int))
    exact this
  have ho1 : Only (· = p) w (w.setCell ⟨p, 9, none⟩ (.int .i64 (N : Int))) := (Only.refl (· = p) w).put rfl 9 _
  have hsz : (r.size : Int) + s.size ≤ 9223372036854775807 := by omega
  have hszN : r.size + s.size ≤ 9223372036854775807 := by omega
  have hns : (n : Int) + s.size ≤ 1000000000 := by omega
  clear hN hn
  have hq : r.size + s.size = (r ++ s).size := by rw [ByteArray.size_append]
  rw [hq] at hr ⊢
  obtain ⟨R, hR⟩ : ∃ R, eat (r ++ s).size v (L (r ++ s)) = R := ⟨_, rfl⟩
  rw [hR]
  have HR := Lib.hid hR
  clear hq hR
  go_enter Tryd.func21, Tryd.ntmps21
  go_wp2_with fail
  simp only [E9.out]
  go_wp2
  obtain ⟨w1, hw1⟩ : ∃ x, w.setCell ⟨p, 9, none⟩ (.int .i64 (N : Int)) = x := ⟨_, rfl⟩
  simp only [hw1] at hB1 ho1 ⊢
  obtain ⟨q, hq2⟩ : ∃ x, r ++ s = x := ⟨_, rfl⟩
  simp only [hq2] at hr HR ⊢
  clear hw1 hq2 c8 c9 f9 h hsz hszN
  go_loopw [1] (fun x wr => ∃ (f : Nat) (u : V8) (l : ByteArray), x = .string l ∧ l.size ≤ f ∧ l.size ≤ 1000000000 ∧ Hid (eat f u (L l) = R) ∧ Blk wr p 48 (hcells u r N) ∧ Only (· = p) w wr) (fun x _ => match x with | .string l => l.size | _ => 0)
  case atStart => exact ⟨q.size, v, q, rfl, Nat.le_refl _, hr, HR, hB1, ho1⟩
  case round =>
    clear hB1 ho1 HR
    obtain ⟨f, u, l, rfl, hlf, hl, HE, hB, ho⟩ := hrel
    have HT : Hid (Tabs wr) := Lib.hid (HTW.out.only ho (Nat.ne_of_lt hp1) (Nat.ne_of_lt hp2))
    by_cases h64 : l.size < 64
    · have hRv : R = (u, L l) := by
        rw [← HE.out]
        cases f with
        | zero => rfl
        | succ f => rw [eat, if_pos (by rw [← sz]; exact h64)]
      have HRv := Lib.hid hRv
      have f8 := hB.frozen 8
      have c8 : wr.cell? ⟨p, 8, none⟩ = some (.string r) := (hB.cell 8).trans rfl
      have h64i : (l.size : Int) < 64 := by omega
      clear hRv
      go_wp2
      go_end0
      refine ⟨rfl, ?_, ho.put rfl 8 _⟩
      have := hB.set_ 8 (.string l)
      rw [HRv.out, S_L]
      exact this
    · obtain ⟨f, rfl⟩ : ∃ g, f = g + 1 := ⟨f - 1, by omega⟩
      have hst : eat f (comp u ((L l).take 64)) ((L l).drop 64) = R := by
        have := HE.out
        rw [eat, if_neg (by rw [← sz]; exact h64)] at this
        exact this
      have h64i : (64 : Int) ≤ (l.size : Int) := by omega
      have h64n : 64 ≤ l.size := by omega
      have hez : (l.extract 0 64).size = 64 := by rw [ByteArray.size_extract]; omega
      have HEL : Hid (L (l.extract 0 64) = (L l).take 64) := Lib.hid (by rw [L_from_start])
      have HEZ := Lib.hid hez
      obtain ⟨ua, ub, uc, ud, ue, uf, ug, uh⟩ := u
      simp only [hcells] at hB
      have c0 : wr.cell? ⟨p, 0, none⟩ = some (.int .u32 (iv ua)) := (hB.cell 0).trans rfl
      have c1 : wr.cell? ⟨p, 1, none⟩ = some (.int .u32 (iv ub)) := (hB.cell 1).trans rfl
      have c2 : wr.cell? ⟨p, 2, none⟩ = some (.int .u32 (iv uc)) := (hB.cell 2).trans rfl
      have c3 : wr.cell? ⟨p, 3, none⟩ = some (.int .u32 (iv ud)) := (hB.cell 3).trans rfl
      have c4 : wr.cell? ⟨p, 4, none⟩ = some (.int .u32 (iv ue)) := (hB.cell 4).trans rfl
      have c5 : wr.cell? ⟨p, 5, none⟩ = some (.int .u32 (iv uf)) := (hB.cell 5).trans rfl
      have c6 : wr.cell? ⟨p, 6, none⟩ = some (.int .u32 (iv ug)) := (hB.cell 6).trans rfl
      have c7 : wr.cell? ⟨p, 7, none⟩ = some (.int .u32 (iv uh)) := (hB.cell 7).trans rfl
      have hlt := hB.lt
      have hcall := rounds_calls wr.drew (HT.out.below ((Below.refl _ wr).drew)) ⟨ua, ub, uc, ud, ue, uf, ug, uh⟩ (l.extract 0 64) hez
      rw [HEL.out] at hcall
      obtain ⟨⟨ca, cb, cc, cd, ce, cf, cg, ch⟩, hcm⟩ : ∃ V, comp ⟨ua, ub, uc, ud, ue, uf, ug, uh⟩ ((L l).take 64) = V := ⟨_, rfl⟩
      rw [hcm] at hcall hst
      simp only [cells8] at hcall
      have HST := Lib.hid hst
      have HB := Lib.hid hB
      clear hst hez hcm hB
      go_wp2_with fail
      go_region_with ((refine hcall.mono ?_; rintro e w4 ⟨rfl, hb4⟩; have hB4 := HB.out.drew.below hb4; have d0 : w4.cell? ⟨p, 0, none⟩ = some (.int .u32 (iv ua)) := (hB4.cell 0).trans rfl; have g0 := hB4.frozen 0; have d1 : w4.cell? ⟨p, 1, none⟩ = some (.int .u32 (iv ub)) := (hB4.cell 1).trans rfl; have g1 := hB4.frozen 1; have d2 : w4.cell? ⟨p, 2, none⟩ = some (.int .u32 (iv uc)) := (hB4.cell 2).trans rfl; have g2 := hB4.frozen 2; have d3 : w4.cell? ⟨p, 3, none⟩ = some (.int .u32 (iv ud)) := (hB4.cell 3).trans rfl; have g3 := hB4.frozen 3; have d4 : w4.cell? ⟨p, 4, none⟩ = some (.int .u32 (iv ue)) := (hB4.cell 4).trans rfl; have g4 := hB4.frozen 4; have d5 : w4.cell? ⟨p, 5, none⟩ = some (.int .u32 (iv uf)) := (hB4.cell 5).trans rfl; have g5 := hB4.frozen 5; have d6 : w4.cell? ⟨p, 6, none⟩ = some (.int .u32 (iv ug)) := (hB4.cell 6).trans rfl; have g6 := hB4.frozen 6; have d7 : w4.cell? ⟨p, 7, none⟩ = some (.int .u32 (iv uh)) := (hB4.cell 7).trans rfl; have g7 := hB4.frozen 7))
      all_goals
        have hBn : Blk ((((((((w4.setCell ⟨p, 0, none⟩ (.int .u32 (iv ca))).setCell ⟨p, 1, none⟩ (.int .u32 (iv cb))).setCell ⟨p, 2, none⟩ (.int .u32 (iv cc))).setCell ⟨p, 3, none⟩ (.int .u32 (iv cd))).setCell ⟨p, 4, none⟩ (.int .u32 (iv ce))).setCell ⟨p, 5, none⟩ (.int .u32 (iv cf))).setCell ⟨p, 6, none⟩ (.int .u32 (iv cg))).setCell ⟨p, 7, none⟩ (.int .u32 (iv ch))) p 48 (hcells ⟨ca, cb, cc, cd, ce, cf, cg, ch⟩ r N) := by
          have h := ((((((((hB4.set_ 0 (.int .u32 (iv ca))).set_ 1 (.int .u32 (iv cb))).set_ 2 (.int .u32 (iv cc))).set_ 3 (.int .u32 (iv cd))).set_ 4 (.int .u32 (iv ce))).set_ 5 (.int .u32 (iv cf))).set_ 6 (.int .u32 (iv cg))).set_ 7 (.int .u32 (iv ch)))
          have e : (((((((((hcells ⟨ua, ub, uc, ud, ue, uf, ug, uh⟩ r N).setIfInBounds 0 (.int .u32 (iv ca))).setIfInBounds 1 (.int .u32 (iv cb))).setIfInBounds 2 (.int .u32 (iv cc))).setIfInBounds 3 (.int .u32 (iv cd))).setIfInBounds 4 (.int .u32 (iv ce))).setIfInBounds 5 (.int .u32 (iv cf))).setIfInBounds 6 (.int .u32 (iv cg))).setIfInBounds 7 (.int .u32 (iv ch))) = hcells ⟨ca, cb, cc, cd, ce, cf, cg, ch⟩ r N := by simp [hcells]
          have e0 : (#[.int .u32 (iv ua), .int .u32 (iv ub), .int .u32 (iv uc), .int .u32 (iv ud), .int .u32 (iv ue), .int .u32 (iv uf), .int .u32 (iv ug), .int .u32 (iv uh), .string r, .int .i64 (N : Int)] : Array Value) = hcells ⟨ua, ub, uc, ud, ue, uf, ug, uh⟩ r N := rfl
          rw [e0, e] at h
          exact h
        have hon : Only (· = p) w ((((((((w4.setCell ⟨p, 0, none⟩ (.int .u32 (iv ca))).setCell ⟨p, 1, none⟩ (.int .u32 (iv cb))).setCell ⟨p, 2, none⟩ (.int .u32 (iv cc))).setCell ⟨p, 3, none⟩ (.int .u32 (iv cd))).setCell ⟨p, 4, none⟩ (.int .u32 (iv ce))).setCell ⟨p, 5, none⟩ (.int .u32 (iv cf))).setCell ⟨p, 6, none⟩ (.int .u32 (iv cg))).setCell ⟨p, 7, none⟩ (.int .u32 (iv ch))) := ((((((((((ho.drew).below hb4).put rfl 0 (.int .u32 (iv ca))).put rfl 1 (.int .u32 (iv cb))).put rfl 2 (.int .u32 (iv cc))).put rfl 3 (.int .u32 (iv cd))).put rfl 4 (.int .u32 (iv ce))).put rfl 5 (.int .u32 (iv cf))).put rfl 6 (.int .u32 (iv cg))).put rfl 7 (.int .u32 (iv ch)))
        obtain ⟨w5, hw5⟩ : ∃ x, ((((((((w4.setCell ⟨p, 0, none⟩ (.int .u32 (iv ca))).setCell ⟨p, 1, none⟩ (.int .u32 (iv cb))).setCell ⟨p, 2, none⟩ (.int .u32 (iv cc))).setCell ⟨p, 3, none⟩ (.int .u32 (iv cd))).setCell ⟨p, 4, none⟩ (.int .u32 (iv ce))).setCell ⟨p, 5, none⟩ (.int .u32 (iv cf))).setCell ⟨p, 6, none⟩ (.int .u32 (iv cg))).setCell ⟨p, 7, none⟩ (.int .u32 (iv ch))) = x := ⟨_, rfl⟩
        simp only [hw5] at hBn hon ⊢
        clear hw5 d0 d1 d2 d3 d4 d5 d6 d7 g0 g1 g2 g3 g4 g5 g6 g7 hB4 hb4 c0 c1 c2 c3 c4 c5 c6 c7 hcall
        go_wp2
        go_roundw
        case rel => exact ⟨f, ⟨ca, cb, cc, cd, ce, cf, cg, ch⟩, l.extract 64 l.size, rfl, by rw [ByteArray.size_extract]; omega, by rw [ByteArray.size_extract]; omega, Lib.hid (by rw [L_to_end]; exact HST.out), hBn, hon⟩
        case measure => simp only [ByteArray.size_extract]; omega
/-- a sum's bytes -/
def word4 (x : W) : List UInt8 := [UInt8.ofNat (x.toNat / 16777216), UInt8.ofNat (x.toNat / 65536), UInt8.ofNat (x.toNat / 256), UInt8.ofNat x.toNat]
end Go.Proofs.YtjmahkpmnajmfaaDoor.Sha
