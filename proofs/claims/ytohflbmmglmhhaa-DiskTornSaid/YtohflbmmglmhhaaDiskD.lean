/- disk: Crash, walked. -/
import Derived.Test.YtohflbmmglmhhaaDiskC
namespace Go.Proofs.Ytohflbmmglmhhaa.Dk
open Go.RowKit Go.Proofs.Ytohflbmmglmhhaa.Mem Go.Proofs.YtohflbmmglmhhaaW.PrintWords Go.Proofs.YtohflbmmglmhhaaW.PrintLast Go.Proofs.YtohflbmmglmhhaaW.PrintMore Go.Proofs.Ytohflbmmglmhhaa.Aid
set_option linter.unusedVariables false
set_option linter.unusedSimpArgs false
/-- the writes that survive, of the first so many -/
def aliveN (cache : List (Nat × ByteArray)) (keep : List Bool) (n : Nat) : List (Nat × ByteArray) := alive (cache.take n) keep
theorem alive_snoc (keep : List Bool) (a : Nat × ByteArray) : ∀ (c : List (Nat × ByteArray)) , alive (c ++ [a]) keep = if keep.getD c.length false then alive c keep ++ [a] else alive c keep := by
  induction keep with
  | nil => intro c; simp [alive]
  | cons b keep ih =>
    intro c
    cases c with
    | nil => cases b <;> simp [alive]
    | cons x c =>
      have := ih c
      simp only [alive, List.cons_append, List.zip_cons_cons, List.length_cons, List.getD_cons_succ] at this ⊢
      cases b
      · simpa using this
      · simp only [List.filter_cons, if_true, List.map_cons]
        rw [this]
        split <;> simp
theorem aliveN_succ (cache : List (Nat × ByteArray)) (keep : List Bool) (n : Nat) (h : n < cache.length) : aliveN cache keep (n + 1) = if keep.getD n false then aliveN cache keep n ++ [cache[n]] else aliveN cache keep n := by
  unfold aliveN
  rw [List.take_succ_eq_append_getElem h, alive_snoc, List.length_take, Nat.min_eq_left (Nat.le_of_lt h)]
theorem aliveN_all (cache : List (Nat × ByteArray)) (keep : List Bool) : aliveN cache keep cache.length = alive cache keep := by
  unfold aliveN; rw [List.take_length]
theorem alive_mem (cache : List (Nat × ByteArray)) (keep : List Bool) : ∀ x ∈ alive cache keep, x ∈ cache := by
  intro x hx
  unfold alive at hx
  obtain ⟨⟨y, b⟩, hy, rfl⟩ := List.mem_map.1 hx
  exact (List.of_mem_zip (List.mem_filter.1 hy).1).1
theorem alive_len (cache : List (Nat × ByteArray)) (keep : List Bool) : (alive cache keep).length ≤ cache.length := by
  unfold alive
  rw [List.length_map]
  refine Nat.le_trans (List.length_filter_le _ _) ?_
  rw [List.length_zip]
  omega
/-- the first so many have landed -/
def landsK (size : Nat) (torn : Int) (l : List ByteArray) (ws : List (Nat × ByteArray)) (k : Nat) : List ByteArray :=
  if k < ws.length then lands l (ws.take k) else landsT size torn l ws
theorem landsT_snoc (size : Nat) (torn : Int) (a : Nat × ByteArray) : ∀ (ws : List (Nat × ByteArray)) (l : List ByteArray), landsT size torn l (ws ++ [a]) = (lands l ws).set a.1 (tear size torn (lands l ws) a)
  | [], l => rfl
  | [w], l => rfl
  | w :: v :: r, l => by
    show landsT size torn (l.set w.1 w.2) (v :: (r ++ [a])) = _
    exact landsT_snoc size torn a (v :: r) (l.set w.1 w.2)
theorem landsT_last (size : Nat) (torn : Int) (l : List ByteArray) (ws : List (Nat × ByteArray)) (k : Nat) (h : k + 1 = ws.length) : landsT size torn l ws = (lands l (ws.take k)).set (ws[k]'(by omega)).1 (tear size torn (lands l (ws.take k)) (ws[k]'(by omega))) := by
  have e : ws = ws.take k ++ [ws[k]'(by omega)] := by
    rw [← List.take_succ_eq_append_getElem (by omega), h, List.take_length]
  conv => lhs; rw [e]
  exact landsT_snoc size torn _ _ l
theorem lands_len' (size : Nat) (torn : Int) : ∀ (ws : List (Nat × ByteArray)) (l : List ByteArray), (landsT size torn l ws).length = l.length
  | [], l => rfl
  | [w], l => by simp [landsT]
  | w :: v :: r, l => by
    show (landsT size torn (l.set w.1 w.2) (v :: r)).length = _
    rw [lands_len' size torn (v :: r), List.length_set]
theorem landsK_succ (size : Nat) (torn : Int) (l : List ByteArray) (ws : List (Nat × ByteArray)) (k : Nat) (h : k < ws.length) :
    landsK size torn l ws (k + 1) = (landsK size torn l ws k).set ws[k].1 (if k + 1 = ws.length then tear size torn (lands l (ws.take k)) ws[k] else ws[k].2) ∧ landsK size torn l ws k = lands l (ws.take k) := by
  unfold landsK
  rw [if_pos h]
  refine ⟨?_, rfl⟩
  by_cases hl : k + 1 = ws.length
  · rw [if_neg (by omega), if_pos hl]
    exact landsT_last size torn l ws k hl
  · rw [if_pos (by omega), if_neg hl, List.take_succ_eq_append_getElem h, lands_snoc]
theorem landsK_zero (size : Nat) (torn : Int) (l : List ByteArray) (ws : List (Nat × ByteArray)) : landsK size torn l ws 0 = l := by
  unfold landsK
  cases ws with
  | nil => rfl
  | cons a r => rw [if_pos (by simp)]; rfl
theorem landsK_end (size : Nat) (torn : Int) (l : List ByteArray) (ws : List (Nat × ByteArray)) : landsK size torn l ws ws.length = landsT size torn l ws := by
  unfold landsK
  rw [if_neg (by omega)]
theorem lands_each (n : Nat) : ∀ (ws : List (Nat × ByteArray)) (l : List ByteArray), (∀ s ∈ l, s.size = n) → (∀ x ∈ ws, x.2.size = n) → ∀ s ∈ lands l ws, s.size = n
  | [], l, h, _ => h
  | a :: r, l, h, hw => by
    show ∀ s ∈ lands (l.set a.1 a.2) r, s.size = n
    refine lands_each n r _ (fun s hs => ?_) (fun x hx => hw x (List.mem_cons_of_mem _ hx))
    rcases List.mem_or_eq_of_mem_set hs with h1 | h1
    · exact h s h1
    · rw [h1]; exact hw a (List.mem_cons_self ..)
/-- the cache's writes, kept where they survive -/
structure Al (w0 wr : World) (p : Nat) (F : Nat → Prop) (lv cv av : Value) (d : D) (ws : List (Nat × ByteArray)) : Prop where
  op : Op wr p F lv cv d
  sl : Sl wr 69 2 av ws.length (wcells ws)
  mine : ∀ k, own av k → w0.heap.size ≤ k
  only : Only F w0 wr
set_option maxHeartbeats 4000000 in
set_option maxRecDepth 100000 in
theorem crash_calls (w : World) (p : Nat) (F : Nat → Prop) (d : D) (h : PD w p F d) (hf : Fine d) (hcl : d.cache.length ≤ 1000000000) (A : Option Addr) (c : Nat) (keep : List Bool) (torn : Int)
    (hk : ∀ W, Only F w W → Kd.C Kd.bool W A keep.length keep) (hkc : keep.length ≤ c) (ht0 : -9223372036854775808 ≤ torn) (ht1 : torn ≤ 9223372036854775807) :
    Calls Try.prog 11 #[.pointer (some ⟨p, 0, none⟩), .slice A keep.length c, .int .i64 torn] w fun e w' => e = .returned (.tuple #[]) ∧ Post w p F (crash d keep torn) w' := by
  have hlt0 := h.lt
  obtain ⟨lv, cv, h'⟩ := h
  obtain ⟨A2, cap2, rfl, hcl2⟩ := h'.cach.form
  obtain ⟨c0, c1, c2, c3, c4, c5, c6⟩ := h'.cells
  obtain ⟨i0, hi, hz0, hz1, hz2⟩ := info_parts info_w
  go_enter Try.func11, Try.ntmps11
  clear c0 c1 c3 c4 c5 c6
  go_wp2
  go_loopw [6, 16] (fun av i wr => ∃ k : Nat, k ≤ d.cache.length ∧ i = .int .i64 k ∧ Al w wr p F lv (.slice A2 d.cache.length cap2) av d (aliveN d.cache keep k)) (fun _ i _ => d.cache.length - (intOf i).toNat)
  case atStart => exact ⟨0, Nat.zero_le _, rfl, h', Sl.nil _ _ _, fun k hk => by (cases hk), Only.refl _ _⟩
  case round =>
    clear h' c2
    obtain ⟨k, hkk, rfl, hA⟩ := hrel
    by_cases hlt : k < d.cache.length
    · have hnext := aliveN_succ d.cache keep k hlt
      have hnl : (aliveN d.cache keep k).length ≤ 1000000000 := by
        have := alive_len (d.cache.take k) keep
        rw [List.length_take] at this
        unfold aliveN
        omega
      obtain ⟨g1, o1, hA1, y1, y2⟩ := wr_at hA.op.cach hlt
      subst hA1
      obtain ⟨⟨a, s⟩, has⟩ : ∃ x, d.cache[k] = x := ⟨_, rfl⟩
      rw [has] at y1 y2 hnext
      clear has
      have hO1 := hA.op.alloc (.cells #[.int .i64 (a : Int), .string s] 69)
      have hN1 := Blk.new wr 69 #[.int .i64 (a : Int), .string s]
      have hon1 := hA.only.alloc (.cells #[.int .i64 (a : Int), .string s] 69)
      have hs1 := hA.sl.alloc (.cells #[.int .i64 (a : Int), .string s] 69)
      have hws := hA.only.size
      obtain ⟨q, hq⟩ : ∃ q, wr.heap.size = q := ⟨_, rfl⟩
      obtain ⟨w3, hw3⟩ : ∃ x, wr.alloc (.cells #[.int .i64 (a : Int), .string s] 69) = x := ⟨_, rfl⟩
      rw [hw3] at hO1 hN1 hon1 hs1
      rw [hq] at hN1 hws
      have n0 : w3.cell? ⟨q, 0, none⟩ = some (.int .i64 (a : Int)) := (hN1.cell 0).trans rfl
      have n1 : w3.cell? ⟨q, 1, none⟩ = some (.string s) := (hN1.cell 1).trans rfl
      have hK := hk w3 hon1
      have hmine := hA.mine
      by_cases hin : k < keep.length
      · obtain ⟨ad, hAd, hb⟩ := bool_at hK hin
        subst hAd
        cases hkb : keep[k] with
        | true =>
          rw [hkb] at hb
          have hgd : keep.getD k false = true := by rw [List.getD_eq_getElem?_getD, List.getElem?_eq_getElem hin, hkb]; rfl
          rw [hgd, if_pos rfl] at hnext
          have hki : (k : Int) < (keep.length : Int) := by omega
          obtain ⟨A5, cap5, rfl, hcl5⟩ := hs1.form
          have HS := Lib.hid hs1
          have HB := Lib.hid (Blk.new w3 69 #[.int .i64 (a : Int), .string s])
          clear hA hK
          go_wp2_with (at_builtin; go_loud (refine wpList_append_sl rfl _ _ 54 54 rfl 69 i0 _ 2 24 Try.underlying54 hi hz0 hz1 hz2 rfl _ _ _ rfl (HS.out.alloc _) _ 1 [.int .i64 (a : Int), .string s] rfl (src_blk HB.out Try.underlying54 1 1 rfl (by simp [Value.oneCell'])) ?c1 ?c2 ?_))
          case c1 => unfold maxLen; omega
          case c2 => omega
          intro A' cap' w4 hs4 ho4 hw4
          have hm4 : ∀ k', own (.slice A' ((aliveN d.cache keep k).length + 1) cap') k' → w.heap.size ≤ k' := fun k' hk' => by
            rcases hw4 k' hk' with e | e
            · exact hmine k' e
            · have := hon1.size
              try simp only [World.size_alloc] at e
              omega
          have hA4 : Al w w4 p F lv (.slice (some ⟨g1, o1, none⟩) d.cache.length cap2) (.slice A' ((aliveN d.cache keep k).length + 1) cap') d (aliveN d.cache keep (k + 1)) := by
            refine ⟨(hO1.alloc _).only ho4 fun k' f o => ?_, ?_, hm4, (hon1.alloc _).trans' ho4 fun k' o => .inr (hmine k' o)⟩
            · have h1 := hlt0 k' f
              have h2 := hmine k' o
              omega
            · rw [hnext, List.length_append, wcells_snoc]
              exact hs4
          have hl4 : (aliveN d.cache keep (k + 1)).length = (aliveN d.cache keep k).length + 1 := by rw [hnext, List.length_append]; rfl
          clear hs4 ho4 hw4 hm4 hO1 hs1 HS HB hon1 hN1
          go_wp2
          go_roundw
          case rel => exact ⟨k + 1, by omega, by go_num, hA4⟩
          case measure => simp [intOf]; omega
        | false =>
          rw [hkb] at hb
          have hgd : keep.getD k false = false := by rw [List.getD_eq_getElem?_getD, List.getElem?_eq_getElem hin, hkb]; rfl
          rw [hgd, if_neg (by simp)] at hnext
          have hki : (k : Int) < (keep.length : Int) := by omega
          have hA4 : Al w w3 p F lv (.slice (some ⟨g1, o1, none⟩) d.cache.length cap2) _ d (aliveN d.cache keep (k + 1)) := ⟨hO1, by rw [hnext]; exact hs1, hmine, hon1⟩
          clear hA hK hO1 hs1 hon1 hN1 hnext
          go_wp2
          go_roundw
          case rel => exact ⟨k + 1, by omega, by go_num, hA4⟩
          case measure => simp [intOf]; omega
      · have hgd : keep.getD k false = false := by rw [List.getD_eq_getElem?_getD, List.getElem?_eq_none (by omega)]; rfl
        rw [hgd, if_neg (by simp)] at hnext
        have hki : ¬ (k : Int) < (keep.length : Int) := by omega
        have hA4 : Al w w3 p F lv (.slice (some ⟨g1, o1, none⟩) d.cache.length cap2) _ d (aliveN d.cache keep (k + 1)) := ⟨hO1, by rw [hnext]; exact hs1, hmine, hon1⟩
        clear hA hK hO1 hs1 hon1 hN1 hnext
        go_wp2
        go_roundw
        case rel => exact ⟨k + 1, by omega, by go_num, hA4⟩
        case measure => simp [intOf]; omega
    · have hkl : k = d.cache.length := by omega
      subst hkl
      rw [aliveN_all] at hA
      have hwat : ∀ x ∈ alive d.cache keep, x.1 < d.l.length ∧ x.2.size = d.size := fun x hx => hf.wat x (alive_mem _ _ x hx)
      have hnl := alive_len d.cache keep
      have hcr : crash d keep torn = { d with l := landsT d.size torn d.l (alive d.cache keep), cache := [], off := false, left := 0 } := rfl
      obtain ⟨ws, hws⟩ : ∃ ws, alive d.cache keep = ws := ⟨_, rfl⟩
      rw [hws] at hA hwat hnl hcr
      clear hws
      obtain ⟨A5, cap5, rfl, hcl5⟩ := hA.sl.form
      obtain ⟨A3, cap3, hA3, _⟩ := hA.op.secs.form
      subst hA3
      have hsz := hf.each
      have h256 := hf.size
      have HW := Lib.hid hwat
      have HCR := Lib.hid hcr
      clear hwat hcr
      have hmine := hA.mine
      have hOp0 : Op wr p F (.slice A3 d.l.length cap3) (.slice A2 d.cache.length cap2) { d with l := landsK d.size torn d.l ws 0 } := by rw [landsK_zero]; exact hA.op
      have hSl0 := hA.sl
      have hOn0 := hA.only
      clear hA
      go_wp2
      go_loopw [38] (fun i wr => ∃ k : Nat, k ≤ ws.length ∧ i = .int .i64 k ∧ Op wr p F (.slice A3 d.l.length cap3) (.slice A2 d.cache.length cap2) { d with l := landsK d.size torn d.l ws k } ∧ Sl wr 69 2 (.slice A5 ws.length cap5) ws.length (wcells ws) ∧ Only F w wr) (fun i _ => ws.length - (intOf i).toNat)
      case atStart => exact ⟨0, Nat.zero_le _, rfl, hOp0, hSl0, hOn0⟩
      case round =>
        clear hOp0 hSl0 hOn0
        obtain ⟨k, hkk, rfl, hO, hS, hon⟩ := hrel
        by_cases hlt : k < ws.length
        · obtain ⟨hnext, hthis⟩ := landsK_succ d.size torn d.l ws k hlt
          have hll : (landsK d.size torn d.l ws k).length = d.l.length := by rw [hthis, lands_len]
          obtain ⟨g1, o1, hA1, y1, y2⟩ := wr_at hS hlt
          subst hA1
          obtain ⟨hat, hsz1⟩ := HW.out _ (List.getElem_mem hlt)
          have heach : ∀ s ∈ landsK d.size torn d.l ws k, s.size = d.size := by
            rw [hthis]
            exact lands_each d.size _ _ hsz fun x hx => (HW.out x (List.mem_of_mem_take hx)).2
          rw [← hthis] at hnext
          obtain ⟨⟨a, s⟩, has⟩ : ∃ x, ws[k] = x := ⟨_, rfl⟩
          rw [has] at y1 y2 hat hsz1 hnext
          try simp only at y1 y2 hat hsz1 hnext
          clear has hthis
          obtain ⟨LK, hLK⟩ : ∃ x, landsK d.size torn d.l ws k = x := ⟨_, rfl⟩
          rw [hLK] at hO hnext hll heach
          clear hLK
          have hal : a < LK.length := by omega
          have hold : LK[a].size = d.size := heach _ (List.getElem_mem hal)
          have hgetD : LK.getD a ⟨#[]⟩ = LK[a] := by rw [List.getD_eq_getElem?_getD, List.getElem?_eq_getElem hal]; rfl
          have hO1 := hO.alloc (.cells #[.int .i64 (a : Int), .string s] 69)
          have hN1 := Blk.new wr 69 #[.int .i64 (a : Int), .string s]
          have hon1 := hon.alloc (.cells #[.int .i64 (a : Int), .string s] 69)
          have hS1 := hS.alloc (.cells #[.int .i64 (a : Int), .string s] 69)
          have hws := hon.size
          have hg1 : g1 < wr.heap.size := hS.lt rfl
          have hFq : ¬ F wr.heap.size := fun e => by have := hO.flt _ e; omega
          obtain ⟨q, hq⟩ : ∃ q, wr.heap.size = q := ⟨_, rfl⟩
          obtain ⟨w3, hw3⟩ : ∃ x, wr.alloc (.cells #[.int .i64 (a : Int), .string s] 69) = x := ⟨_, rfl⟩
          rw [hw3] at hO1 hN1 hon1 hS1
          rw [hq] at hN1 hws hFq hg1
          have n0 : w3.cell? ⟨q, 0, none⟩ = some (.int .i64 (a : Int)) := (hN1.cell 0).trans rfl
          have n1 : w3.cell? ⟨q, 1, none⟩ = some (.string s) := (hN1.cell 1).trans rfl
          have nf := hN1.frozen 1
          clear hO hS hon
          obtain ⟨z0, z1, z2, z3, z4, z5, z6⟩ := hO1.cells
          have hSec := hO1.secs
          rw [hll] at hSec
          obtain ⟨g3, o3, c3, cur3, hv3, _⟩ := hSec.form_pos (by omega)
          injection hv3 with q1 q2 q3
          subst q1
          have hx := hSec.cell rfl (j := a) (by omega)
          have hfx := hSec.frozen rfl (o3 + a)
          have hai : (a : Int) < (d.l.length : Int) := by omega
          by_cases hL : k + 1 = ws.length
          · rw [if_pos hL] at hnext
            have hLb : ((k : Int) == (ws.length : Int) - 1) = true := beq_iff_eq.mpr (by omega)
            by_cases h0 : 0 ≤ torn
            · by_cases h1 : torn < (d.size : Int)
              · have htear : tear d.size torn LK (a, s) = s.extract 0 torn.toNat ++ LK[a].extract torn.toNat LK[a].size := by
                  unfold tear
                  rw [if_pos ⟨h0, h1⟩]
                  simp only [hgetD]
                rw [htear] at hnext
                clear htear
                obtain ⟨n, rfl⟩ : ∃ n : Nat, torn = n := ⟨torn.toNat, by omega⟩
                rw [Int.toNat_natCast] at hnext
                have hn1 : n ≤ s.size := by omega
                have hn2 : n ≤ LK[a].size := by omega
                have hxs : w3.cell? ⟨g3, o3 + a, none⟩ = some (.string LK[a]) := by
                  rw [hx, List.getElem?_map, List.getElem?_eq_getElem hal]
                  rfl
                obtain ⟨old, hold2⟩ : ∃ x, LK[a] = x := ⟨_, rfl⟩
                rw [hold2] at hxs hnext hn2 hold
                obtain ⟨v, hv⟩ : ∃ v, s.extract 0 n ++ old.extract n old.size = v := ⟨_, rfl⟩
                have hcat : (((s.extract 0 n).size : Int) + ((old.extract n old.size).size : Int)) ≤ 9223372036854775807 := by
                  rw [ByteArray.size_extract, ByteArray.size_extract]; omega
                rw [hv] at hnext
                have hi1 : (n : Int) ≤ (s.size : Int) := by omega
                have hi2 : (n : Int) ≤ (old.size : Int) := by omega
                have HNX := Lib.hid hnext
                have HOL := Lib.hid hold2
                have HX := Lib.hid hx
                have hbs : ¬ 9223372036854775807 < old.size := by omega
                clear hnext hold2 hx hgetD hsz1 hold
                go_wp2
                go_still_tail 16, (by kernel_rfl)
                change wpList _ _ _ _ _ w3.drew
                have hqF : ∀ k', F k' → ¬ (fun x => x = q) k' := fun k' f e => hFq (e ▸ f)
                have hc1 : w3.drew.cell? ⟨q, 1, none⟩ = some (.string s) := n1
                have hf1 : w3.drew.frozen? ⟨q, 1, none⟩ = false := nf
                have hset : Only (fun x => x = q) w3.drew (w3.drew.setCell ⟨q, 1, none⟩ (.string v)) := (Only.refl (fun x => x = q) _).setCell (p := ⟨q, 1, none⟩) (.inl rfl) _
                have hO5a := hO1.drew.only hset hqF
                have hS5a := hS1.drew.far (p := ⟨q, 1, none⟩) (fun e => by cases e; omega) (.string v)
                have hSec5 := hSec.drew.far (p := ⟨q, 1, none⟩) (fun e => hFq (hO1.fl q e)) (.string v)
                have hon5a : Only F w (w3.drew.setCell ⟨q, 1, none⟩ (.string v)) := hon1.drew.setCell (p := ⟨q, 1, none⟩) (.inr hws) _
                have hN5 := (hN1.drew).set_ 1 (.string v)
                have hgq3 : g3 ≠ q := fun e => hFq (e ▸ hO1.fl g3 rfl)
                have hxs5 : (w3.drew.setCell ⟨q, 1, none⟩ (.string v)).cell? ⟨g3, o3 + a, none⟩ = some (.string old) := (World.cell?_setCell_other _ _ _ _ (by simp [hgq3])).trans hxs
                have hfx5 : (w3.drew.setCell ⟨q, 1, none⟩ (.string v)).frozen? ⟨g3, o3 + a, none⟩ = false := by rw [World.frozen?_setCell]; exact hfx
                have hpq : p ≠ q := fun e => hFq (e ▸ hO1.fp)
                have zz1 := (hO5a.cells).2.1
                obtain ⟨w5, hw5⟩ : ∃ x, w3.drew.setCell ⟨q, 1, none⟩ (.string v) = x := ⟨_, rfl⟩
                rw [hw5] at hO5a hS5a hSec5 hon5a hN5 hxs5 hfx5 zz1
                have m0 : w5.cell? ⟨q, 0, none⟩ = some (.int .i64 (a : Int)) := (hN5.cell 0).trans rfl
                have m1 : w5.cell? ⟨q, 1, none⟩ = some (.string v) := (hN5.cell 1).trans rfl
                clear hset hO1 hS1 hSec hon1 hN1 hxs hfx n0 n1 nf z1 z0 z2 z3 z4 z5 z6
                have hx2 : w5.drew.cell? ⟨g3, o3 + a, none⟩ = some (.string old) := by
                  rw [show w5.drew.cell? ⟨g3, o3 + a, none⟩ = w5.cell? ⟨g3, o3 + a, none⟩ from rfl, hxs5]
                have hfx2 : w5.drew.frozen? ⟨g3, o3 + a, none⟩ = false := hfx5
                obtain ⟨hO4, hon4⟩ := Op.sec hO5a.drew hll a hat v
                have hon5 := hon5a.drew.trans hon4
                have hS5 : Sl (w5.drew.setCell ⟨g3, o3 + a, none⟩ (.string v)) 69 2 (.slice (some ⟨g1, o1, none⟩) ws.length cap5) ws.length (wcells ws) := hS5a.drew.far (p := ⟨g3, o3 + a, none⟩) (fun e => hSec5.apart hS5a (by decide) g3 rfl e) _
                have hO5 : Op (w5.drew.setCell ⟨g3, o3 + a, none⟩ (.string v)) p F (.slice (some ⟨g3, o3, none⟩) d.l.length cap3) (.slice A2 d.cache.length cap2) { d with l := landsK d.size (n : Int) d.l ws (k + 1) } := by
                  rw [HNX.out]
                  exact hO4
                have HO5 := Lib.hid hO5
                have HN5 := Lib.hid hon5
                have HS5 := Lib.hid hS5
                clear hO4 hon4 hO5 hon5 hS5 hO5a hS5a hSec5 hxs5 hon5a
                go_wp2
                go_still_tail 9, (by kernel_rfl)
                change wpList _ _ _ _ _ w5.drew
                have h5 := HO5.out
                have h6 := HN5.out
                have h7 := HS5.out
                clear HO5 HN5 HS5
                generalize w5.drew = w9 at hx2 hfx2 h5 h6 h7 ⊢
                go_wp2
                go_roundw
                case rel => exact ⟨k + 1, by omega, by go_num, h5, h7, h6⟩
                case measure => simp [intOf]; omega
              · have htear : tear d.size torn LK (a, s) = s := by unfold tear; rw [if_neg (by omega)]
                rw [htear] at hnext
                clear htear
                have hx2 : w3.drew.cell? ⟨g3, o3 + a, none⟩ = some (.string LK[a]) := by
                  rw [show w3.drew.cell? ⟨g3, o3 + a, none⟩ = w3.cell? ⟨g3, o3 + a, none⟩ from rfl, hx, List.getElem?_map, List.getElem?_eq_getElem hal]
                  rfl
                have hfx2 : w3.drew.frozen? ⟨g3, o3 + a, none⟩ = false := hfx
                obtain ⟨hO4, hon4⟩ := Op.sec hO1.drew hll a hat s
                have hon5 := hon1.drew.trans hon4
                have hS5 : Sl (w3.drew.setCell ⟨g3, o3 + a, none⟩ (.string s)) 69 2 (.slice (some ⟨g1, o1, none⟩) ws.length cap5) ws.length (wcells ws) := hS1.drew.far (p := ⟨g3, o3 + a, none⟩) (fun e => hSec.apart hS1 (by decide) g3 rfl e) _
                have hO5 : Op (w3.drew.setCell ⟨g3, o3 + a, none⟩ (.string s)) p F (.slice (some ⟨g3, o3, none⟩) d.l.length cap3) (.slice A2 d.cache.length cap2) { d with l := landsK d.size torn d.l ws (k + 1) } := by
                  rw [hnext]
                  exact hO4
                have HO5 := Lib.hid hO5
                have HN5 := Lib.hid hon5
                have HS5 := Lib.hid hS5
                clear hO4 hon4 hO5 hon5 hS5 hO1 hS1 hSec hnext hx hon1
                go_wp2
                go_still_tail 9, (by kernel_rfl)
                change wpList _ _ _ _ _ w3.drew
                have h5 := HO5.out
                have h6 := HN5.out
                have h7 := HS5.out
                clear HO5 HN5 HS5
                generalize w3.drew = w9 at hx2 hfx2 h5 h6 h7 ⊢
                go_wp2
                go_roundw
                case rel => exact ⟨k + 1, by omega, by go_num, h5, h7, h6⟩
                case measure => simp [intOf]; omega
            · have htear : tear d.size torn LK (a, s) = s := by unfold tear; rw [if_neg (by omega)]
              rw [htear] at hnext
              clear htear
              have hx2 : w3.drew.cell? ⟨g3, o3 + a, none⟩ = some (.string LK[a]) := by
                rw [show w3.drew.cell? ⟨g3, o3 + a, none⟩ = w3.cell? ⟨g3, o3 + a, none⟩ from rfl, hx, List.getElem?_map, List.getElem?_eq_getElem hal]
                rfl
              have hfx2 : w3.drew.frozen? ⟨g3, o3 + a, none⟩ = false := hfx
              obtain ⟨hO4, hon4⟩ := Op.sec hO1.drew hll a hat s
              have hon5 := hon1.drew.trans hon4
              have hS5 : Sl (w3.drew.setCell ⟨g3, o3 + a, none⟩ (.string s)) 69 2 (.slice (some ⟨g1, o1, none⟩) ws.length cap5) ws.length (wcells ws) := hS1.drew.far (p := ⟨g3, o3 + a, none⟩) (fun e => hSec.apart hS1 (by decide) g3 rfl e) _
              have hO5 : Op (w3.drew.setCell ⟨g3, o3 + a, none⟩ (.string s)) p F (.slice (some ⟨g3, o3, none⟩) d.l.length cap3) (.slice A2 d.cache.length cap2) { d with l := landsK d.size torn d.l ws (k + 1) } := by
                rw [hnext]
                exact hO4
              have HO5 := Lib.hid hO5
              have HN5 := Lib.hid hon5
              have HS5 := Lib.hid hS5
              clear hO4 hon4 hO5 hon5 hS5 hO1 hS1 hSec hnext hx hon1
              go_wp2
              go_still_tail 9, (by kernel_rfl)
              change wpList _ _ _ _ _ w3.drew
              have h5 := HO5.out
              have h6 := HN5.out
              have h7 := HS5.out
              clear HO5 HN5 HS5
              generalize w3.drew = w9 at hx2 hfx2 h5 h6 h7 ⊢
              go_wp2
              go_roundw
              case rel => exact ⟨k + 1, by omega, by go_num, h5, h7, h6⟩
              case measure => simp [intOf]; omega
          · rw [if_neg hL] at hnext
            have hLb : ((k : Int) == (ws.length : Int) - 1) = false := beq_eq_false_iff_ne.mpr (by omega)
            have hx2 : w3.drew.cell? ⟨g3, o3 + a, none⟩ = some (.string LK[a]) := by
              rw [show w3.drew.cell? ⟨g3, o3 + a, none⟩ = w3.cell? ⟨g3, o3 + a, none⟩ from rfl, hx, List.getElem?_map, List.getElem?_eq_getElem hal]
              rfl
            have hfx2 : w3.drew.frozen? ⟨g3, o3 + a, none⟩ = false := hfx
            obtain ⟨hO4, hon4⟩ := Op.sec hO1.drew hll a hat s
            have hon5 := hon1.drew.trans hon4
            have hS5 : Sl (w3.drew.setCell ⟨g3, o3 + a, none⟩ (.string s)) 69 2 (.slice (some ⟨g1, o1, none⟩) ws.length cap5) ws.length (wcells ws) := hS1.drew.far (p := ⟨g3, o3 + a, none⟩) (fun e => hSec.apart hS1 (by decide) g3 rfl e) _
            have hO5 : Op (w3.drew.setCell ⟨g3, o3 + a, none⟩ (.string s)) p F (.slice (some ⟨g3, o3, none⟩) d.l.length cap3) (.slice A2 d.cache.length cap2) { d with l := landsK d.size torn d.l ws (k + 1) } := by
              rw [hnext]
              exact hO4
            have HO5 := Lib.hid hO5
            have HN5 := Lib.hid hon5
            have HS5 := Lib.hid hS5
            clear hO4 hon4 hO5 hon5 hS5 hO1 hS1 hSec hnext hx hon1
            go_wp2
            go_still_tail 9, (by kernel_rfl)
            change wpList _ _ _ _ _ w3.drew
            have h5 := HO5.out
            have h6 := HN5.out
            have h7 := HS5.out
            clear HO5 HN5 HS5
            generalize w3.drew = w9 at hx2 hfx2 h5 h6 h7 ⊢
            go_wp2
            go_roundw
            case rel => exact ⟨k + 1, by omega, by go_num, h5, h7, h6⟩
            case measure => simp [intOf]; omega
        · have hke : k = ws.length := by omega
          subst hke
          rw [landsK_end] at hO
          have hll : (landsT d.size torn d.l ws).length = d.l.length := lands_len' _ _ _ _
          obtain ⟨z0, z1, z2, z3, z4, z5, z6⟩ := hO.cells
          have f2 := hO.frozen 2
          have f3 := hO.frozen 3
          have f4 := hO.frozen 4
          have hnil : Op (wr.setCell ⟨p, 2, none⟩ (.slice none 0 0)) p F (.slice A3 d.l.length cap3) (.slice none 0 0) { d with l := landsT d.size torn d.l ws, cache := [] } :=
            ⟨hO.blk.set_ 2 _, hO.fp, by simpa [World.setCell] using hO.flt, hO.secs.far (p := ⟨p, 2, none⟩) hO.nl _, hO.fl, Sl.nil _ _ _, fun k hk => by cases hk⟩
          have hon2 : Only F w (wr.setCell ⟨p, 2, none⟩ (.slice none 0 0)) := hon.setCell (p := ⟨p, 2, none⟩) (.inl hO.fp) _
          obtain ⟨w5, hw5⟩ : ∃ x, wr.setCell ⟨p, 2, none⟩ (.slice none 0 0) = x := ⟨_, rfl⟩
          rw [hw5] at hnil hon2
          obtain ⟨y0, y1, y2, y3, y4, y5, y6⟩ := hnil.cells
          have g4 := hnil.frozen 4
          obtain ⟨h6, o6⟩ := hnil.put 4 (.bool false) { d with l := landsT d.size torn d.l ws, cache := [], off := false } rfl rfl rfl
          obtain ⟨w6, hw6⟩ : ∃ x, w5.setCell ⟨p, 4, none⟩ (.bool false) = x := ⟨_, rfl⟩
          rw [hw6] at h6 o6
          obtain ⟨x0, x1, x2, x3, x4, x5, x6⟩ := h6.cells
          have g3 := h6.frozen 3
          obtain ⟨h7, o7⟩ := h6.put 3 (.int .i64 0) { d with l := landsT d.size torn d.l ws, cache := [], off := false, left := 0 } rfl rfl rfl
          obtain ⟨w7, hw7⟩ : ∃ x, w6.setCell ⟨p, 3, none⟩ (.int .i64 0) = x := ⟨_, rfl⟩
          rw [hw7] at h7 o7
          have H7 := Lib.hid h7
          have O7 := Lib.hid ((hon2.trans o6).trans o7)
          clear hO hS hon hnil hon2 h6 o6 h7 o7 z0 z1 z3 z5 z6 y0 y1 y2 y3 y5 y6 x0 x1 x2 x4 x5 x6
          go_wp2
          go_end0
          refine ⟨rfl, ?_⟩
          rw [HCR.out]
          exact ⟨⟨_, _, H7.out.mono (fun k hk => .inl hk) (ext_lt hlt0 O7.out.size)⟩, O7.out⟩
end Go.Proofs.Ytohflbmmglmhhaa.Dk
