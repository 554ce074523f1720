/- batch: the state of a batch, and place, walked. -/
import Derived.Test.YtjcilknfhkpepaaSlIns
import Derived.Test.YtjcilknfhkpepaaBatP
import Derived.Test.YtjcilknfhkpepaaX1
import Derived.Test.YtjcilknfhkpepaaStillB
namespace Go.Proofs.Ytjcilknfhkpepaa.Bat
open Go.RowKit Go.Proofs.Ytjcilknfhkpepaa.Mem Go.Proofs.Ytjcilknfhkpepaa.X Go.Proofs.YtjcilknfhkpepaaW.PrintWords Go.Proofs.YtjcilknfhkpepaaW.PrintLast Go.Proofs.YtjcilknfhkpepaaW.PrintMore Go.Proofs.Ytjcilknfhkpepaa.Aid
set_option linter.unusedVariables false
set_option linter.unusedSimpArgs false
def ccells (c : Ch) : List Value := [.string c.key, .string c.value, .bool c.gone]
def bcells (l : List Ch) : List Value := l.flatMap ccells
theorem bcells_len : ∀ l : List Ch, (bcells l).length = l.length * 3
  | [] => rfl
  | c :: t => by
    have := bcells_len t
    have e : bcells (c :: t) = ccells c ++ bcells t := List.flatMap_cons
    rw [e, List.length_append, this, List.length_cons, Nat.succ_mul]
    show 3 + _ = _
    omega
theorem bcells_at : ∀ (l : List Ch) (i : Nat) (h : i < l.length) (j : Nat), j < 3 → (bcells l)[i * 3 + j]? = (ccells l[i])[j]?
  | c :: t, 0, h, j, hj => by
    have e : bcells (c :: t) = ccells c ++ bcells t := List.flatMap_cons
    rw [e, List.getElem?_append_left (by show 0 * 3 + j < 3; omega)]
    simp
  | c :: t, i + 1, h, j, hj => by
    have e : bcells (c :: t) = ccells c ++ bcells t := List.flatMap_cons
    rw [e, List.getElem?_append_right (by show 3 ≤ _; omega), show (i + 1) * 3 + j - (ccells c).length = i * 3 + j from by show (i + 1) * 3 + j - 3 = _; omega]
    exact bcells_at t i (by simpa using h) j hj
theorem bcells_take : ∀ (l : List Ch) (i : Nat), (bcells l).take (i * 3) = bcells (l.take i)
  | [], i => by simp [bcells]
  | c :: t, 0 => by simp [bcells]
  | c :: t, i + 1 => by
    have e : bcells (c :: t) = ccells c ++ bcells t := List.flatMap_cons
    have e2 : bcells ((c :: t).take (i + 1)) = ccells c ++ bcells (t.take i) := List.flatMap_cons
    rw [e, e2, List.take_append, List.take_of_length_le (by show 3 ≤ _; omega), show (i + 1) * 3 - (ccells c).length = i * 3 from by show (i + 1) * 3 - 3 = _; omega, bcells_take t i]
theorem bcells_drop : ∀ (l : List Ch) (i : Nat), (bcells l).drop (i * 3) = bcells (l.drop i)
  | [], i => by simp [bcells]
  | c :: t, 0 => by simp
  | c :: t, i + 1 => by
    have e : bcells (c :: t) = ccells c ++ bcells t := List.flatMap_cons
    rw [e, List.drop_append, List.drop_eq_nil_of_le (by show 3 ≤ _; omega), List.nil_append, show (i + 1) * 3 - (ccells c).length = i * 3 from by show (i + 1) * 3 - 3 = _; omega, bcells_drop t i]
    rfl
theorem bcells_app (a b : List Ch) : bcells (a ++ b) = bcells a ++ bcells b := List.flatMap_append
theorem one_ccells (c : Ch) : ∀ v ∈ ccells c, v.oneCell' = true := by
  intro v hv
  simp [ccells] at hv
  rcases hv with rfl | rfl | rfl <;> rfl
theorem one_bcells (l : List Ch) : ∀ v ∈ bcells l, v.oneCell' = true := by
  intro v hv
  obtain ⟨c, _, h⟩ := List.mem_flatMap.1 hv
  exact one_ccells c v h
/-- a batch in memory: its block, and its row -/
structure Bt (w : World) (p : Nat) (v : Value) (l : List Ch) : Prop where
  blk : Blk w p 65 #[v]
  row : Sl w 31 3 v l.length (bcells l)
theorem Bt.below {w w' : World} {p : Nat} {v : Value} {l : List Ch} (h : Bt w p v l) (hb : Below w.heap.size w w') : Bt w' p v l := ⟨h.blk.below hb, h.row.below hb⟩
theorem Bt.alloc {w : World} {p : Nat} {v : Value} {l : List Ch} (h : Bt w p v l) (o : Obj) : Bt (w.alloc o) p v l := ⟨h.blk.alloc o, h.row.alloc o⟩
theorem Bt.drew {w : World} {p : Nat} {v : Value} {l : List Ch} (h : Bt w p v l) : Bt w.drew p v l := ⟨h.blk.drew, h.row.drew⟩
theorem Bt.only {w w' : World} {p : Nat} {v : Value} {l : List Ch} {F : Nat → Prop} (h : Bt w p v l) (ho : Only F w w') (h1 : ¬ F p) (h2 : ∀ k, own v k → ¬ F k) : Bt w' p v l := ⟨ho.blk h.blk h1, h.row.only ho h2⟩
theorem Bt.apart {w : World} {p : Nat} {v : Value} {l : List Ch} (h : Bt w p v l) : ¬ own v p := h.row.type_ne h.blk (by decide)
/-- the cells of one change -/
theorem Bt.at {w : World} {p : Nat} {A : Option Addr} {n cap : Nat} {l : List Ch} (h : Bt w p (.slice A n cap) l) {i : Nat} (hi : i < l.length) :
    ∃ g off, A = some ⟨g, off, none⟩ ∧ w.cell? ⟨g, off + i * 3, none⟩ = some (.string l[i].key) ∧ w.cell? ⟨g, off + i * 3 + 1, none⟩ = some (.string l[i].value) ∧ w.cell? ⟨g, off + i * 3 + 2, none⟩ = some (.bool l[i].gone) := by
  obtain ⟨g, off, c, cur, hv, hb, h2, h3, h4, h5⟩ := h.row.form_pos (by omega)
  have hn : n = l.length := by injection hv
  injection hv with e1 e2 e3
  subst e1
  have hv : (.slice (some ⟨g, off, none⟩) n cap : Value) = .slice (some ⟨g, off, none⟩) l.length cap := by rw [hn]
  have c0 := h.row.cell hv (j := i * 3 + 0) (by omega)
  have c1 := h.row.cell hv (j := i * 3 + 1) (by omega)
  have c2 := h.row.cell hv (j := i * 3 + 2) (by omega)
  rw [bcells_at l i hi _ (by omega)] at c0 c1 c2
  exact ⟨g, off, rfl, c0, c1, c2⟩
theorem lt_iff (a b : ByteArray) : (a.toList < b.toList) ↔ lt a b := by
  rw [tl, tl]
  rfl
theorem less_eq : ∀ (x y : List UInt8), Op.bytesLess x y = decide (x < y)
  | [], [] => rfl
  | [], _ :: _ => by simp [Op.bytesLess]
  | _ :: _, [] => by simp [Op.bytesLess]
  | a :: x, b :: y => by
    rw [Op.bytesLess, less_eq x y, Bool.eq_iff_iff]
    simp only [Bool.or_eq_true, Bool.and_eq_true, decide_eq_true_eq, beq_iff_eq, List.cons_lt_cons_iff]
theorem less_yes {a b : ByteArray} (h : lt a b) : Op.bytesLess a.toList b.toList = true := by rw [less_eq]; exact decide_eq_true ((lt_iff a b).2 h)
theorem less_no {a b : ByteArray} (h : ¬ lt a b) : Op.bytesLess a.toList b.toList = false := by rw [less_eq]; exact decide_eq_false fun e => h ((lt_iff a b).1 e)
set_option maxHeartbeats 4000000 in
set_option maxRecDepth 100000 in
theorem place_calls (w : World) (p : Nat) (v : Value) (l : List Ch) (key : ByteArray) (h : Bt w p v l) (hs : Sorted l) (hn : l.length ≤ 100000) :
    Calls Try.prog 31 #[.pointer (some ⟨p, 0, none⟩), .string key] w fun e w' => e = .returned (.tuple #[.int .i64 (pos l key : Int), .bool (there l key)]) ∧ Below w.heap.size w w' := by
  obtain ⟨A, cap, rfl, hnc, hml⟩ := h.row.form
  have hlt0 := h.blk.lt
  have HS := Lib.hid hs
  have HN := Lib.hid hn
  have HT := Lib.hid h
  have x0 : w.cell? ⟨p, 0, none⟩ = some (.slice A l.length cap) := (h.blk.cell 0).trans rfl
  clear hs h hml hnc
  go_enter Try.func31, Try.ntmps31
  go_wp2
  refine wp_region_still_lit (by kernel_rfl) (by kernel_rfl) ?_
  repeat still_step
  refine wpStill_nil ?_
  go_wp2
  go_loopw [6, 7] (fun lo hi wr => ∃ a b : Nat, lo = .int .i64 a ∧ hi = .int .i64 b ∧ a ≤ pos l key ∧ pos l key ≤ b ∧ b ≤ l.length ∧ Bt wr p (.slice A l.length cap) l ∧ Below w.heap.size w wr) (fun lo hi _ => (intOf hi - intOf lo).toNat)
  case atStart => exact ⟨0, l.length, rfl, rfl, Nat.zero_le _, pos_le l key, Nat.le_refl _, HT.out.drew, (Below.refl _ w).drew⟩
  case round =>
    obtain ⟨a, b, rfl, rfl, ha, hb, hbl, hbt, hbw⟩ := hrel
    clear x0 HT
    have x0 : wr.cell? ⟨p, 0, none⟩ = some (.slice A l.length cap) := (hbt.blk.cell 0).trans rfl
    have HT := Lib.hid hbt
    clear hbt
    by_cases hab : a < b
    · have hab' : (a : Int) < (b : Int) := by omega
      obtain ⟨m, hm⟩ : ∃ m, m = (a + b) / 2 := ⟨_, rfl⟩
      have hma : a ≤ m := by omega
      have hmb : m < b := by omega
      have hml : m < l.length := by omega
      have hq : Int.tdiv ((a : Int) + (b : Int)) 2 = (m : Int) := by rw [Int.tdiv_eq_ediv_of_nonneg (by omega)]; omega
      have hw : wrap64 ((a : Int) + (b : Int)) = (a : Int) + (b : Int) := w64 (by omega) (by have := HN.out; omega)
      have hmi : (m : Int) < (l.length : Int) := by omega
      obtain ⟨g, off, hA, c0, c1, c2⟩ := HT.out.at hml
      subst hA
      have hah := ahead l key HS.out m hml
      have hmax := HN.out
      obtain ⟨k9, hk9⟩ : ∃ k9, l[m].key = k9 := ⟨_, rfl⟩
      rw [hk9] at c0 hah
      clear hm c1 c2 hk9
      by_cases hlt : lt k9 key
      · have hb1 := less_yes hlt
        have hpos := hah.1 hlt
        have HH := Lib.hid (And.intro hmax (And.intro hpos (And.intro hb (And.intro hbl (And.intro hma hmb)))))
        clear hah hlt hmax hpos ha hb hbl hab hma
        go_wp2
        go_roundw
        case rel => exact ⟨m + 1, b, by go_num, rfl, by have := HH.out; omega, HH.out.2.2.1, HH.out.2.2.2.1, HT.out, hbw⟩
        case measure => have := HH.out; simp [intOf]; omega
      · have hb1 := less_no hlt
        have hpos : pos l key ≤ m := Nat.le_of_not_lt fun e => hlt (hah.2 e)
        have HH := Lib.hid (And.intro hmax (And.intro hpos (And.intro ha (And.intro hbl (And.intro hma hmb)))))
        clear hah hlt hmax hpos ha hb hbl hab hma
        go_wp2
        go_roundw
        case rel => exact ⟨a, m, rfl, rfl, HH.out.2.2.1, HH.out.2.1, by have := HH.out; omega, HT.out, hbw⟩
        case measure => have := HH.out; simp [intOf]; omega
    · have hab' : ¬ (a : Int) < (b : Int) := by omega
      have hap : a = pos l key := by omega
      have hth := at_pos l key
      subst hap
      clear ha hb hab
      by_cases hpl : pos l key < l.length
      · have hpl' : (pos l key : Int) < (l.length : Int) := by omega
        obtain ⟨g, off, hA, c0, c1, c2⟩ := HT.out.at hpl
        subst hA
        rw [List.getElem?_eq_getElem hpl] at hth
        simp only at hth
        obtain ⟨k9, hk9⟩ : ∃ k9, l[pos l key].key = k9 := ⟨_, rfl⟩
        rw [hk9] at c0 hth
        have hd : (k9.toList == key.toList) = there l key := by rw [hth]; exact beq_L k9 key
        obtain ⟨q, hq⟩ : ∃ q, pos l key = q := ⟨_, rfl⟩
        obtain ⟨th, hh⟩ : ∃ th, there l key = th := ⟨_, rfl⟩
        have HQ := Lib.hid (And.intro hq hh)
        rw [hq] at c0 hpl' hab'
        rw [hh] at hd
        simp only [hq]
        clear c1 c2 hk9 hth hq hh hbl hpl
        go_wp2
        refine wp_region_still_lit (by kernel_rfl) (by kernel_rfl) ?_
        repeat still_step
        refine wpStill_nil ?_
        go_wp2
        go_ret2
        exact ⟨by rw [HQ.out.1, HQ.out.2]; rfl, hbw.drew⟩
      · have hpl' : ¬ (pos l key : Int) < (l.length : Int) := by omega
        rw [List.getElem?_eq_none (by omega)] at hth
        simp only at hth
        obtain ⟨q, hq⟩ : ∃ q, pos l key = q := ⟨_, rfl⟩
        have HQ := Lib.hid (And.intro hq hth)
        rw [hq] at hpl' hab'
        simp only [hq]
        have hplN : ¬ q < l.length := by rw [← hq]; exact hpl
        have hplD : decide (q < l.length) = false := decide_eq_false hplN
        clear hth hq hbl hpl
        go_wp2
        refine wp_region_still_lit (by kernel_rfl) (by kernel_rfl) ?_
        refine StillB.out_ ?_
        iterate 22 (refine StillB.step_ (fun K hK => ?_); go_simp; refine hK _ ?_; clear hK K)
        refine StillB.nil_ ?_
        go_wp2
        go_ret2
        exact ⟨by rw [HQ.out.1, HQ.out.2]; rfl, hbw.drew⟩
end Go.Proofs.Ytjcilknfhkpepaa.Bat
