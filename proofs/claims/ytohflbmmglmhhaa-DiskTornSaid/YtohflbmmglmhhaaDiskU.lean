/- disk: the reference's Crash, walked. -/
import Derived.Test.YtohflbmmglmhhaaDiskT
namespace Go.Proofs.Ytohflbmmglmhhaa.Dk
open Go.RowKit Go.Proofs.Ytohflbmmglmhhaa.Mem Go.Proofs.Ytohflbmmglmhhaa.X Go.Proofs.YtohflbmmglmhhaaW.PrintWords Go.Proofs.YtohflbmmglmhhaaW.PrintLast Go.Proofs.YtohflbmmglmhhaaW.PrintMore Go.Proofs.Ytohflbmmglmhhaa.Aid
set_option linter.unusedVariables false
set_option linter.unusedSimpArgs false
/-- the sectors behind the first so many -/
def crashK (d : D) (keep : List Bool) (torn : Int) (k : Nat) : List ByteArray :=
  if (k : Int) ≤ lastN keep (min d.cache.length keep.length) then lands d.l (aliveN d.cache keep k) else (crash d keep torn).l
theorem crashK_zero (d : D) (keep : List Bool) (torn : Int) : crashK d keep torn 0 = d.l := by
  unfold crashK
  have := lastN_lt keep (min d.cache.length keep.length)
  split
  · rfl
  · exact crash_none d keep torn (by omega)
theorem crashK_end (d : D) (keep : List Bool) (torn : Int) (k : Nat) (h : ¬ (k : Int) ≤ lastN keep (min d.cache.length keep.length)) : crashK d keep torn k = (crash d keep torn).l := by
  unfold crashK
  rw [if_neg h]
theorem crashK_off (d : D) (keep : List Bool) (torn : Int) (k : Nat) (hk : k < d.cache.length) (h : (k : Int) ≤ lastN keep (min d.cache.length keep.length)) (hf : keep.getD k false = false) : crashK d keep torn (k + 1) = crashK d keep torn k := by
  have ht := lastN_true keep (min d.cache.length keep.length) (by omega)
  have hne : (k : Int) ≠ lastN keep (min d.cache.length keep.length) := fun e => by
    rw [← e, Int.toNat_natCast, hf] at ht
    cases ht
  unfold crashK
  rw [if_pos h, if_pos (by omega), aliveN_succ d.cache keep k hk, hf, if_neg (by simp)]
theorem crashK_on (d : D) (keep : List Bool) (torn : Int) (k : Nat) (hk : k < d.cache.length) (h : (k : Int) ≤ lastN keep (min d.cache.length keep.length)) (ht : keep.getD k false = true) :
    crashK d keep torn (k + 1) = (crashK d keep torn k).set d.cache[k].1 (if (k : Int) = lastN keep (min d.cache.length keep.length) then tear d.size torn (crashK d keep torn k) d.cache[k] else d.cache[k].2) := by
  have e0 : crashK d keep torn k = lands d.l (aliveN d.cache keep k) := by unfold crashK; rw [if_pos h]
  rw [e0]
  unfold crashK
  by_cases hl : (k : Int) = lastN keep (min d.cache.length keep.length)
  · rw [if_neg (by omega), if_pos hl]
    exact crash_ref d keep torn k hl.symm hk
  · rw [if_pos (by omega), if_neg hl, aliveN_succ d.cache keep k hk, ht, if_pos rfl, lands_snoc]
theorem crashK_len (d : D) (keep : List Bool) (torn : Int) (k : Nat) : (crashK d keep torn k).length = d.l.length := by
  unfold crashK
  split
  · rw [lands_len]
  · rw [crash_len]
theorem crashK_each (d : D) (keep : List Bool) (torn : Int) (k : Nat) (hf : Fine d) : ∀ s ∈ crashK d keep torn k, s.size = d.size := by
  unfold crashK
  split
  · exact lands_each d.size _ _ hf.each fun x hx => (hf.wat x (List.mem_of_mem_take (alive_mem _ _ x hx))).2
  · exact (crash_fine d keep torn hf).each
set_option maxHeartbeats 8000000 in
set_option maxRecDepth 100000 in
theorem rcrash_calls (w : World) (lv cv : Value) (d : D) (h : RD w lv cv d) (hf : Fine d) (hcl : d.cache.length ≤ 1000000000) (K : Option Addr) (c : Nat) (keep : List Bool) (torn : Int)
    (hk : Kd.C Kd.bool w K keep.length keep) (hkc : keep.length ≤ c) (ht0 : -9223372036854775808 ≤ torn) (ht1 : torn ≤ 9223372036854775807) :
    Calls Try.prog 25 #[.agg (dcells d lv cv), .slice K keep.length c, .int .i64 torn] w fun e w' => ∃ lv' cv', e = .returned (.agg (dcells (crash d keep torn) lv' cv')) ∧ RD w' lv' cv' (crash d keep torn) ∧ Below w.heap.size w w' ∧ (∀ k, own lv' k → own lv k ∨ w.heap.size ≤ k) ∧ (∀ k, own cv' k → own cv k ∨ w.heap.size ≤ k) := by
  have hKlen : keep.length ≤ 9223372036854775807 := hk.2.1
  have HK : Hid (∀ W, Below w.heap.size w W → Kd.C Kd.bool W K keep.length keep) := Lib.hid fun W hW => Kd.C_below hk hW
  have HCE := Lib.hid (crashK_end d keep torn)
  have HCF := Lib.hid (crashK_off d keep torn)
  have HCN := Lib.hid (crashK_on d keep torn)
  have HCL := Lib.hid (crashK_len d keep torn)
  have HCS := Lib.hid (fun k => crashK_each d keep torn k hf)
  have HC0 := Lib.hid (crashK_zero d keep torn)
  have HLT := Lib.hid (lastN_lt keep)
  have HCR := Lib.hid (show crash d keep torn = { d with l := (crash d keep torn).l, cache := [], off := false, left := 0 } from rfl)
  obtain ⟨ds, dl, dc, left, off, full, ops⟩ := d
  have hn := hf.len
  have hwat := hf.wat
  have h256 := hf.size
  simp only at hcl hn hwat h256
  obtain ⟨A, cap, rfl, _⟩ := h.secs.form
  obtain ⟨A1, cap1, rfl, _⟩ := h.cach.form
  have HRD := Lib.hid h
  have HWA := Lib.hid hwat
  have HCV := Lib.hid (fun k hk => h.cach.lt (k := k) hk)
  clear h hwat hf hk
  simp only at HCE HCF HCN HCL HCS HC0 HCR
  obtain ⟨CK, hCK⟩ : ∃ CK, crashK ⟨ds, dl, dc, left, off, full, ops⟩ keep torn = CK := ⟨_, rfl⟩
  rw [hCK] at HCE HCF HCN HCL HCS HC0
  obtain ⟨CR, hCR⟩ : ∃ CR, crash ⟨ds, dl, dc, left, off, full, ops⟩ keep torn = CR := ⟨_, rfl⟩
  rw [hCR] at HCE HCR ⊢
  clear hCK hCR
  rw [dcells_mk]
  go_enter Try.func25, Try.ntmps25
  have e3 := (Blk.new w 32 #[.int .i64 (ds : Int), (.slice A dl.length cap), (.slice A1 dc.length cap1), .int .i64 (left : Int), .bool off, .bool full, .int .i64 (ops : Int)]).alloc (.cells zero7 32)
  have e6 := blk_new2 w (.cells #[.int .i64 (ds : Int), (.slice A dl.length cap), (.slice A1 dc.length cap1), .int .i64 (left : Int), .bool off, .bool full, .int .i64 (ops : Int)] 32) 32 zero7
  have eb := below2 w (.cells #[.int .i64 (ds : Int), (.slice A dl.length cap), (.slice A1 dc.length cap1), .int .i64 (left : Int), .bool off, .bool full, .int .i64 (ops : Int)] 32) (.cells zero7 32)
  go_wp2
  go_loopw [7, 8] (fun la i wr => ∃ k : Nat, k ≤ dc.length ∧ k ≤ keep.length ∧ i = .int .i64 k ∧ la = .int .i64 (lastN keep k) ∧ Blk wr w.heap.size 32 #[.int .i64 (ds : Int), (.slice A dl.length cap), (.slice A1 dc.length cap1), .int .i64 (left : Int), .bool off, .bool full, .int .i64 (ops : Int)] ∧ Blk wr (w.heap.size + 1) 32 zero7 ∧ Below w.heap.size w wr) (fun _ i _ => dc.length - (intOf i).toNat)
  case atStart => exact ⟨0, Nat.zero_le _, Nat.zero_le _, rfl, rfl, e3, e6, eb⟩
  case round =>
    clear e3 e6 eb
    obtain ⟨k, hkc1, hkk, rfl, rfl, b1, b2, hb⟩ := hrel
    have x2 : wr.cell? ⟨w.heap.size, 2, none⟩ = some (.slice A1 dc.length cap1) := (b1.cell 2).trans rfl
    by_cases hk1 : k < dc.length
    · have hki : (k : Int) < (dc.length : Int) := by omega
      by_cases hk2 : k < keep.length
      · have hkj : (k : Int) < (keep.length : Int) := by omega
        obtain ⟨ad, hAd, hbb⟩ := bool_at (HK.out wr hb) hk2
        subst hAd
        have hstep : lastN keep (k + 1) = if keep.getD k false then (k : Int) else lastN keep k := rfl
        rw [List.getD_eq_getElem?_getD, List.getElem?_eq_getElem hk2, Option.getD_some] at hstep
        obtain ⟨kb, hkb⟩ : ∃ kb, keep[k] = kb := ⟨_, rfl⟩
        rw [hkb] at hbb hstep
        clear hkb
        have H := Lib.hid (And.intro b1 (And.intro b2 hb))
        clear b1 b2 hb
        cases kb
        · rw [if_neg (by simp)] at hstep
          have HS := Lib.hid hstep
          clear hstep
          go_wp2
          go_roundw
          case rel => exact ⟨k + 1, by omega, by omega, by go_num, by rw [HS.out], H.out.1, H.out.2.1, H.out.2.2⟩
          case measure => simp [intOf]; omega
        · rw [if_pos rfl] at hstep
          have HS := Lib.hid hstep
          clear hstep
          go_wp2
          go_roundw
          case rel => exact ⟨k + 1, by omega, by omega, by go_num, by rw [HS.out], H.out.1, H.out.2.1, H.out.2.2⟩
          case measure => simp [intOf]; omega
      · have hkj : ¬ (k : Int) < (keep.length : Int) := by omega
        have hmin : k = min dc.length keep.length := by omega
        subst hmin
        have HR0 : Hid (RD wr (.slice A dl.length cap) (.slice A1 dc.length cap1) ⟨ds, CK 0, dc, left, off, full, ops⟩) := Lib.hid (by rw [HC0.out]; exact HRD.out.below hb)
        obtain ⟨la, hla⟩ : ∃ la, lastN keep (min dc.length keep.length) = la := ⟨_, rfl⟩
        have hlal := HLT.out (min dc.length keep.length)
        rw [hla] at hlal HCE HCF HCN
        simp only [hla]
        clear hla hkc1 hkk
        go_wp2
        go_loopw [10] (fun i wr => ∃ k : Nat, ∃ lvk : Value, (k : Int) ≤ la + 1 ∧ i = .int .i64 k ∧ Blk wr w.heap.size 32 #[.int .i64 (ds : Int), lvk, (.slice A1 dc.length cap1), .int .i64 (left : Int), .bool off, .bool full, .int .i64 (ops : Int)] ∧ Blk wr (w.heap.size + 1) 32 zero7 ∧ RD wr lvk (.slice A1 dc.length cap1) ⟨ds, CK k, dc, left, off, full, ops⟩ ∧ Below w.heap.size w wr ∧ (∀ j, own lvk j → own (.slice A dl.length cap) j ∨ w.heap.size ≤ j)) (fun i _ => (la + 1 - intOf i).toNat)
        case atStart => exact ⟨0, _, by omega, rfl, b1, b2, HR0.out, hb, fun j hj => .inl hj⟩
        case round =>
          clear b1 b2 hb HR0 x2
          obtain ⟨k, lvk, hkla, rfl, b1, b2, hR, hb, hown⟩ := hrel
          have HLL := Lib.hid (HCL.out k)
          obtain ⟨AL, capL, hlv, _⟩ := hR.secs.form
          simp only at hlv
          rw [HLL.out] at hlv
          subst hlv
          by_cases hle : (k : Int) ≤ la
          · have hlt : k < dc.length := by omega
            have hk2 : k < keep.length := by omega
            have hkj : (k : Int) < (keep.length : Int) := by omega
            have hki : (k : Int) < (dc.length : Int) := by omega
            obtain ⟨g1, o1, hA1, y1, y2⟩ := wr_at hR.cach hlt
            subst hA1
            obtain ⟨hat, hsz1⟩ := HWA.out _ (List.getElem_mem hlt)
            have hoff := HCF.out k hlt hle
            have hon := HCN.out k hlt hle
            have heach := HCS.out k
            try simp only at hoff
            try simp only at hon
            try simp only at heach
            try simp only at hat hsz1
            obtain ⟨⟨a, s⟩, has⟩ : ∃ x, dc[k] = x := ⟨_, rfl⟩
            rw [has] at y1 y2 hat hsz1
            try simp only [has] at hon
            try simp only at hat hsz1
            clear has
            obtain ⟨NK, hNK⟩ : ∃ NK, CK (k + 1) = NK := ⟨_, rfl⟩
            rw [hNK] at hoff hon
            have HNK := Lib.hid hNK
            clear hNK
            obtain ⟨LK, hLK⟩ : ∃ LK, CK k = LK := ⟨_, rfl⟩
            rw [hLK] at hR HLL hoff hon heach
            have HLK := Lib.hid hLK
            clear hLK
            have hb1 := b1.alloc (.cells #[.int .i64 (a : Int), .string s] 41)
            have hb2 := b2.alloc (.cells #[.int .i64 (a : Int), .string s] 41)
            have hbn := Blk.new wr 41 #[.int .i64 (a : Int), .string s]
            have hRn := hR.alloc (.cells #[.int .i64 (a : Int), .string s] 41)
            have hbb := hb.alloc hb.size (.cells #[.int .i64 (a : Int), .string s] 41)
            have hwq : w.heap.size + 1 < wr.heap.size := b2.lt
            obtain ⟨ad, hAd, hkb⟩ := bool_at (HK.out _ hbb) hk2
            subst hAd
            rw [List.getD_eq_getElem?_getD, List.getElem?_eq_getElem hk2, Option.getD_some] at hoff hon
            obtain ⟨kb, hkbe⟩ : ∃ kb, keep[k] = kb := ⟨_, rfl⟩
            rw [hkbe] at hkb hoff hon
            clear hkbe
            cases kb
            · have ho := hoff rfl
              have HF := Lib.hid (And.intro hb1 (And.intro hb2 (And.intro (show RD _ _ _ ⟨ds, CK (k + 1), dc, left, off, full, ops⟩ from by rw [HNK.out, ho]; exact hRn) hbb)))
              clear b1 b2 hR hb hb1 hb2 hbn hRn hbb ho hoff hon heach hat hsz1
              go_wp2
              go_roundw
              case rel => exact ⟨k + 1, _, by omega, by go_num, HF.out.1, HF.out.2.1, HF.out.2.2.1, HF.out.2.2.2, hown⟩
              case measure => simp [intOf]; omega
            · have ho := hon rfl
              clear hoff hon b1 b2 hR hb
              by_cases hL : (k : Int) = la
              · rw [if_pos hL] at ho
                by_cases h0 : 0 ≤ torn
                · by_cases h1 : torn < (ds : Int)
                  · have hal : a < LK.length := by rw [HLL.out]; exact hat
                    have htear : tear ds torn LK (a, s) = s.extract 0 torn.toNat ++ LK[a].extract torn.toNat LK[a].size := by
                      unfold tear
                      rw [if_pos ⟨h0, h1⟩]
                      have : LK.getD a ⟨#[]⟩ = LK[a] := by rw [List.getD_eq_getElem?_getD, List.getElem?_eq_getElem (by rw [HLL.out]; exact hat)]; rfl
                      simp only [this]
                    rw [htear] at ho
                    clear htear
                    have hold := heach _ (List.getElem_mem hal)
                    obtain ⟨n, rfl⟩ : ∃ n : Nat, torn = n := ⟨torn.toNat, by omega⟩
                    rw [Int.toNat_natCast] at ho
                    have hSec : Sl (wr.alloc (.cells #[.int .i64 (a : Int), .string s] 41)) 9 1 (.slice AL dl.length capL) dl.length (LK.map Value.string) := by
                      have h := hRn.secs
                      simp only [HLL.out] at h
                      exact h
                    obtain ⟨g3, o3, c3, cur3, hv3, _⟩ := hSec.form_pos (by omega)
                    injection hv3 with q1 q2 q3
                    subst q1 q3
                    have hx := hSec.cell rfl (j := a) (by omega)
                    have hxs : (wr.alloc (.cells #[.int .i64 (a : Int), .string s] 41)).cell? ⟨g3, o3 + a, none⟩ = some (.string LK[a]) := by
                      rw [hx, List.getElem?_map, List.getElem?_eq_getElem hal]
                      rfl
                    obtain ⟨old, hold2⟩ : ∃ x, LK[a] = x := ⟨_, rfl⟩
                    rw [hold2] at hxs ho hold
                    obtain ⟨v, hv⟩ : ∃ v, s.extract 0 n ++ old.extract n old.size = v := ⟨_, rfl⟩
                    have hcat : (((s.extract 0 n).size : Int) + ((old.extract n old.size).size : Int)) ≤ 9223372036854775807 := by
                      rw [ByteArray.size_extract, ByteArray.size_extract]; omega
                    rw [hv] at ho
                    have hn1 : n ≤ s.size := by omega
                    have hn2 : n ≤ old.size := by omega
                    have hi1 : (n : Int) ≤ (s.size : Int) := by omega
                    have hi2 : (n : Int) ≤ (old.size : Int) := by omega
                    have hai : (a : Int) < (dl.length : Int) := by omega
                    have hbs : ¬ 9223372036854775807 < old.size := by omega
                    have hLb : ((k : Int) == la) = true := beq_iff_eq.mpr hL
                    clear hL
                    have HNX : Hid (CK (k + 1) = LK.set a v) := Lib.hid (by rw [HNK.out, ho])
                    obtain ⟨x0, x1, x2, x3, x4, x5, x6⟩ := blk7 hb1
                    clear ho hold hold2 hx hSec heach hsz1 x2 x3 x4 x5 x6
                    have H0 := Lib.hid (And.intro hb1 (And.intro hb2 (And.intro hRn (And.intro hbb hbn))))
                    clear hb1 hb2 hRn hbb hbn
                    go_wp2
                    change Code.wp _ _ _ _ (wr.alloc (.cells #[.int .i64 (a : Int), .string s] 41))
                    obtain ⟨hb1, hb2, hRn, hbb, hbn⟩ := H0.out
                    clear H0 x0 x1
                    generalize wr.alloc (.cells #[.int .i64 (a : Int), .string s] 41) = w2 at hb1 hb2 hRn hbb hbn hxs ⊢
                    have e1 : w2.cell? ⟨w.heap.size, 1, none⟩ = some (.slice (some ⟨g3, o3, none⟩) dl.length capL) := (hb1.cell 1).trans rfl
                    have e4 : w2.cell? ⟨wr.heap.size, 0, none⟩ = some (.int .i64 (a : Int)) := (hbn.cell 0).trans rfl
                    have e5 : w2.cell? ⟨wr.heap.size, 1, none⟩ = some (.string s) := (hbn.cell 1).trans rfl
                    go_still_tail 14, (by kernel_rfl)
                    change wpList _ _ _ _ _ w2.drew
                    have u1 := hb1.drew
                    have u2 := hb2.drew
                    have uR := hRn.drew
                    have ub := hbb.drew
                    have un := hbn.drew
                    clear hb1 hb2 hRn hbb hbn hxs e1 e4 e5
                    generalize w2.drew = w3 at u1 u2 uR ub un ⊢
                    have hc1 : w3.cell? ⟨wr.heap.size, 1, none⟩ = some (.string s) := (un.cell 1).trans rfl
                    have hf1 := un.frozen 1
                    have c1 := u1.far (p := ⟨wr.heap.size, 1, none⟩) (show w.heap.size ≠ wr.heap.size by omega) (.string v)
                    have c2 := u2.far (p := ⟨wr.heap.size, 1, none⟩) (show w.heap.size + 1 ≠ wr.heap.size by omega) (.string v)
                    have cn := un.set_ 1 (.string v)
                    have cR : RD (w3.setCell ⟨wr.heap.size, 1, none⟩ (.string v)) (.slice (some ⟨g3, o3, none⟩) dl.length capL) (.slice (some ⟨g1, o1, none⟩) dc.length cap1) ⟨ds, LK, dc, left, off, full, ops⟩ :=
                      ⟨uR.secs.far (p := ⟨wr.heap.size, 1, none⟩) (uR.secs.type_ne un (by decide)) _, uR.cach.far (p := ⟨wr.heap.size, 1, none⟩) (fun e => by have h9 : wr.heap.size < w.heap.size := HCV.out _ e; omega) _⟩
                    have cb := ub.setCell (p := ⟨wr.heap.size, 1, none⟩) (show w.heap.size ≤ wr.heap.size by omega) (.string v)
                    have m0 : (w3.setCell ⟨wr.heap.size, 1, none⟩ (.string v)).cell? ⟨wr.heap.size, 0, none⟩ = some (.int .i64 (a : Int)) := (cn.cell 0).trans rfl
                    have m1 : (w3.setCell ⟨wr.heap.size, 1, none⟩ (.string v)).cell? ⟨wr.heap.size, 1, none⟩ = some (.string v) := (cn.cell 1).trans rfl
                    clear u1 u2 uR ub un cn hcat hv hi1 hi2
                    have hcall := fun W (hW : RD W (.slice (some ⟨g3, o3, none⟩) dl.length capL) (.slice (some ⟨g1, o1, none⟩) dc.length cap1) ⟨ds, LK, dc, left, off, full, ops⟩) => rland_calls W _ _ _ hW a v (by rw [HLL.out]; exact hat) (by rw [HLL.out]; exact hn)
                    simp only [dcells_mk] at hcall
                    obtain ⟨x0, x1, x2, x3, x4, x5, x6⟩ := blk7 c1
                    clear hat
                    go_wp2_with fail
                    refine (hcall _ cR).mono ?_
                    rintro e w5 ⟨lv', rfl, hR5, hb5, ho5⟩
                    obtain ⟨AL', capL', hlv', _⟩ := hR5.secs.form
                    simp only [List.length_set] at hlv'
                    rw [HLL.out] at hlv'
                    subst hlv'
                    have k1 := c1.below hb5
                    have k2 := c2.below hb5
                    have kb := cb.trans (hb5.mono cb.size)
                    have n1 := blk_whole k1 (cs := #[.int .i64 (ds : Int), (.slice AL' dl.length capL'), (.slice (some ⟨g1, o1, none⟩) dc.length cap1), .int .i64 (left : Int), .bool off, .bool full, .int .i64 (ops : Int)]) rfl
                    have n2 := blk_whole_far k2 (g' := w.heap.size) (by omega) [.int .i64 (ds : Int), (.slice AL' dl.length capL'), (.slice (some ⟨g1, o1, none⟩) dc.length cap1), .int .i64 (left : Int), .bool off, .bool full, .int .i64 (ops : Int)] 0
                    have nR := RD.cells hR5 k1 [.int .i64 (ds : Int), (.slice AL' dl.length capL'), (.slice (some ⟨g1, o1, none⟩) dc.length cap1), .int .i64 (left : Int), .bool off, .bool full, .int .i64 (ops : Int)] 0
                    have nb := below_cells (o := 0) (vs := [.int .i64 (ds : Int), (.slice AL' dl.length capL'), (.slice (some ⟨g1, o1, none⟩) dc.length cap1), .int .i64 (left : Int), .bool off, .bool full, .int .i64 (ops : Int)]) kb (Nat.le_refl _)
                    have no : ∀ j, own (.slice AL' dl.length capL') j → own (.slice A dl.length cap) j ∨ w.heap.size ≤ j := fun j hj => .inr (by have := ho5 j hj; have := cb.size; omega)
                    rw [← HNX.out] at nR
                    obtain ⟨z0, z1, z2, z3, z4, z5, z6⟩ := blk7 k1
                    have f0 := k1.frozen 0
                    have f1 := k1.frozen 1
                    have f2 := k1.frozen 2
                    have f3 := k1.frozen 3
                    have f4 := k1.frozen 4
                    have f5 := k1.frozen 5
                    have f6 := k1.frozen 6
                    have H := Lib.hid (And.intro n1 (And.intro n2 (And.intro nR (And.intro nb no))))
                    clear n1 n2 nR nb no k1 k2 kb c1 c2 cR cb hR5 hb5 ho5 hcall hown x0 x1 x2 x3 x4 x5 x6
                    try clear HNX
                    go_wp2
                    go_roundw
                    case rel => exact ⟨k + 1, (.slice AL' dl.length capL'), by omega, by go_num, H.out.1, H.out.2.1, H.out.2.2.1, H.out.2.2.2.1, H.out.2.2.2.2⟩
                    case measure => simp [intOf]; omega
                  · have htear : tear ds torn LK (a, s) = s := by unfold tear; rw [if_neg (by omega)]
                    rw [htear] at ho
                    clear htear
                    have hLb : ((k : Int) == la) = true := beq_iff_eq.mpr hL
                    clear hL
                    have c1 := hb1
                    have c2 := hb2
                    have cR := hRn
                    have cb := hbb
                    have m0 : (wr.alloc (.cells #[.int .i64 (a : Int), .string s] 41)).cell? ⟨wr.heap.size, 0, none⟩ = some (.int .i64 (a : Int)) := (hbn.cell 0).trans rfl
                    have m1 : (wr.alloc (.cells #[.int .i64 (a : Int), .string s] 41)).cell? ⟨wr.heap.size, 1, none⟩ = some (.string s) := (hbn.cell 1).trans rfl
                    have HNX : Hid (CK (k + 1) = LK.set a s) := Lib.hid (by rw [HNK.out, ho])
                    clear hb1 hb2 hRn hbb hbn heach hsz1 ho
                    have hcall := fun W (hW : RD W (.slice AL dl.length capL) (.slice (some ⟨g1, o1, none⟩) dc.length cap1) ⟨ds, LK, dc, left, off, full, ops⟩) => rland_calls W _ _ _ hW a s (by rw [HLL.out]; exact hat) (by rw [HLL.out]; exact hn)
                    simp only [dcells_mk] at hcall
                    obtain ⟨x0, x1, x2, x3, x4, x5, x6⟩ := blk7 c1
                    clear hat
                    go_wp2_with fail
                    refine (hcall _ cR).mono ?_
                    rintro e w5 ⟨lv', rfl, hR5, hb5, ho5⟩
                    obtain ⟨AL', capL', hlv', _⟩ := hR5.secs.form
                    simp only [List.length_set] at hlv'
                    rw [HLL.out] at hlv'
                    subst hlv'
                    have k1 := c1.below hb5
                    have k2 := c2.below hb5
                    have kb := cb.trans (hb5.mono cb.size)
                    have n1 := blk_whole k1 (cs := #[.int .i64 (ds : Int), (.slice AL' dl.length capL'), (.slice (some ⟨g1, o1, none⟩) dc.length cap1), .int .i64 (left : Int), .bool off, .bool full, .int .i64 (ops : Int)]) rfl
                    have n2 := blk_whole_far k2 (g' := w.heap.size) (by omega) [.int .i64 (ds : Int), (.slice AL' dl.length capL'), (.slice (some ⟨g1, o1, none⟩) dc.length cap1), .int .i64 (left : Int), .bool off, .bool full, .int .i64 (ops : Int)] 0
                    have nR := RD.cells hR5 k1 [.int .i64 (ds : Int), (.slice AL' dl.length capL'), (.slice (some ⟨g1, o1, none⟩) dc.length cap1), .int .i64 (left : Int), .bool off, .bool full, .int .i64 (ops : Int)] 0
                    have nb := below_cells (o := 0) (vs := [.int .i64 (ds : Int), (.slice AL' dl.length capL'), (.slice (some ⟨g1, o1, none⟩) dc.length cap1), .int .i64 (left : Int), .bool off, .bool full, .int .i64 (ops : Int)]) kb (Nat.le_refl _)
                    have no : ∀ j, own (.slice AL' dl.length capL') j → own (.slice A dl.length cap) j ∨ w.heap.size ≤ j := fun j hj => .inr (by have := ho5 j hj; have := cb.size; omega)
                    rw [← HNX.out] at nR
                    obtain ⟨z0, z1, z2, z3, z4, z5, z6⟩ := blk7 k1
                    have f0 := k1.frozen 0
                    have f1 := k1.frozen 1
                    have f2 := k1.frozen 2
                    have f3 := k1.frozen 3
                    have f4 := k1.frozen 4
                    have f5 := k1.frozen 5
                    have f6 := k1.frozen 6
                    have H := Lib.hid (And.intro n1 (And.intro n2 (And.intro nR (And.intro nb no))))
                    clear n1 n2 nR nb no k1 k2 kb c1 c2 cR cb hR5 hb5 ho5 hcall hown x0 x1 x2 x3 x4 x5 x6
                    try clear HNX
                    go_wp2
                    go_roundw
                    case rel => exact ⟨k + 1, (.slice AL' dl.length capL'), by omega, by go_num, H.out.1, H.out.2.1, H.out.2.2.1, H.out.2.2.2.1, H.out.2.2.2.2⟩
                    case measure => simp [intOf]; omega
                · have htear : tear ds torn LK (a, s) = s := by unfold tear; rw [if_neg (by omega)]
                  rw [htear] at ho
                  clear htear
                  have hLb : ((k : Int) == la) = true := beq_iff_eq.mpr hL
                  clear hL
                  have c1 := hb1
                  have c2 := hb2
                  have cR := hRn
                  have cb := hbb
                  have m0 : (wr.alloc (.cells #[.int .i64 (a : Int), .string s] 41)).cell? ⟨wr.heap.size, 0, none⟩ = some (.int .i64 (a : Int)) := (hbn.cell 0).trans rfl
                  have m1 : (wr.alloc (.cells #[.int .i64 (a : Int), .string s] 41)).cell? ⟨wr.heap.size, 1, none⟩ = some (.string s) := (hbn.cell 1).trans rfl
                  have HNX : Hid (CK (k + 1) = LK.set a s) := Lib.hid (by rw [HNK.out, ho])
                  clear hb1 hb2 hRn hbb hbn heach hsz1 ho
                  have hcall := fun W (hW : RD W (.slice AL dl.length capL) (.slice (some ⟨g1, o1, none⟩) dc.length cap1) ⟨ds, LK, dc, left, off, full, ops⟩) => rland_calls W _ _ _ hW a s (by rw [HLL.out]; exact hat) (by rw [HLL.out]; exact hn)
                  simp only [dcells_mk] at hcall
                  obtain ⟨x0, x1, x2, x3, x4, x5, x6⟩ := blk7 c1
                  clear hat
                  go_wp2_with fail
                  refine (hcall _ cR).mono ?_
                  rintro e w5 ⟨lv', rfl, hR5, hb5, ho5⟩
                  obtain ⟨AL', capL', hlv', _⟩ := hR5.secs.form
                  simp only [List.length_set] at hlv'
                  rw [HLL.out] at hlv'
                  subst hlv'
                  have k1 := c1.below hb5
                  have k2 := c2.below hb5
                  have kb := cb.trans (hb5.mono cb.size)
                  have n1 := blk_whole k1 (cs := #[.int .i64 (ds : Int), (.slice AL' dl.length capL'), (.slice (some ⟨g1, o1, none⟩) dc.length cap1), .int .i64 (left : Int), .bool off, .bool full, .int .i64 (ops : Int)]) rfl
                  have n2 := blk_whole_far k2 (g' := w.heap.size) (by omega) [.int .i64 (ds : Int), (.slice AL' dl.length capL'), (.slice (some ⟨g1, o1, none⟩) dc.length cap1), .int .i64 (left : Int), .bool off, .bool full, .int .i64 (ops : Int)] 0
                  have nR := RD.cells hR5 k1 [.int .i64 (ds : Int), (.slice AL' dl.length capL'), (.slice (some ⟨g1, o1, none⟩) dc.length cap1), .int .i64 (left : Int), .bool off, .bool full, .int .i64 (ops : Int)] 0
                  have nb := below_cells (o := 0) (vs := [.int .i64 (ds : Int), (.slice AL' dl.length capL'), (.slice (some ⟨g1, o1, none⟩) dc.length cap1), .int .i64 (left : Int), .bool off, .bool full, .int .i64 (ops : Int)]) kb (Nat.le_refl _)
                  have no : ∀ j, own (.slice AL' dl.length capL') j → own (.slice A dl.length cap) j ∨ w.heap.size ≤ j := fun j hj => .inr (by have := ho5 j hj; have := cb.size; omega)
                  rw [← HNX.out] at nR
                  obtain ⟨z0, z1, z2, z3, z4, z5, z6⟩ := blk7 k1
                  have f0 := k1.frozen 0
                  have f1 := k1.frozen 1
                  have f2 := k1.frozen 2
                  have f3 := k1.frozen 3
                  have f4 := k1.frozen 4
                  have f5 := k1.frozen 5
                  have f6 := k1.frozen 6
                  have H := Lib.hid (And.intro n1 (And.intro n2 (And.intro nR (And.intro nb no))))
                  clear n1 n2 nR nb no k1 k2 kb c1 c2 cR cb hR5 hb5 ho5 hcall hown x0 x1 x2 x3 x4 x5 x6
                  try clear HNX
                  go_wp2
                  go_roundw
                  case rel => exact ⟨k + 1, (.slice AL' dl.length capL'), by omega, by go_num, H.out.1, H.out.2.1, H.out.2.2.1, H.out.2.2.2.1, H.out.2.2.2.2⟩
                  case measure => simp [intOf]; omega
              · rw [if_neg hL] at ho
                have hLb : ((k : Int) == la) = false := beq_eq_false_iff_ne.mpr hL
                have c1 := hb1
                have c2 := hb2
                have cR := hRn
                have cb := hbb
                have m0 : (wr.alloc (.cells #[.int .i64 (a : Int), .string s] 41)).cell? ⟨wr.heap.size, 0, none⟩ = some (.int .i64 (a : Int)) := (hbn.cell 0).trans rfl
                have m1 : (wr.alloc (.cells #[.int .i64 (a : Int), .string s] 41)).cell? ⟨wr.heap.size, 1, none⟩ = some (.string s) := (hbn.cell 1).trans rfl
                have HNX : Hid (CK (k + 1) = LK.set a s) := Lib.hid (by rw [HNK.out, ho])
                clear hb1 hb2 hRn hbb hbn heach hsz1 ho
                have hcall := fun W (hW : RD W (.slice AL dl.length capL) (.slice (some ⟨g1, o1, none⟩) dc.length cap1) ⟨ds, LK, dc, left, off, full, ops⟩) => rland_calls W _ _ _ hW a s (by rw [HLL.out]; exact hat) (by rw [HLL.out]; exact hn)
                simp only [dcells_mk] at hcall
                obtain ⟨x0, x1, x2, x3, x4, x5, x6⟩ := blk7 c1
                clear hat
                go_wp2_with fail
                refine (hcall _ cR).mono ?_
                rintro e w5 ⟨lv', rfl, hR5, hb5, ho5⟩
                obtain ⟨AL', capL', hlv', _⟩ := hR5.secs.form
                simp only [List.length_set] at hlv'
                rw [HLL.out] at hlv'
                subst hlv'
                have k1 := c1.below hb5
                have k2 := c2.below hb5
                have kb := cb.trans (hb5.mono cb.size)
                have n1 := blk_whole k1 (cs := #[.int .i64 (ds : Int), (.slice AL' dl.length capL'), (.slice (some ⟨g1, o1, none⟩) dc.length cap1), .int .i64 (left : Int), .bool off, .bool full, .int .i64 (ops : Int)]) rfl
                have n2 := blk_whole_far k2 (g' := w.heap.size) (by omega) [.int .i64 (ds : Int), (.slice AL' dl.length capL'), (.slice (some ⟨g1, o1, none⟩) dc.length cap1), .int .i64 (left : Int), .bool off, .bool full, .int .i64 (ops : Int)] 0
                have nR := RD.cells hR5 k1 [.int .i64 (ds : Int), (.slice AL' dl.length capL'), (.slice (some ⟨g1, o1, none⟩) dc.length cap1), .int .i64 (left : Int), .bool off, .bool full, .int .i64 (ops : Int)] 0
                have nb := below_cells (o := 0) (vs := [.int .i64 (ds : Int), (.slice AL' dl.length capL'), (.slice (some ⟨g1, o1, none⟩) dc.length cap1), .int .i64 (left : Int), .bool off, .bool full, .int .i64 (ops : Int)]) kb (Nat.le_refl _)
                have no : ∀ j, own (.slice AL' dl.length capL') j → own (.slice A dl.length cap) j ∨ w.heap.size ≤ j := fun j hj => .inr (by have := ho5 j hj; have := cb.size; omega)
                rw [← HNX.out] at nR
                obtain ⟨z0, z1, z2, z3, z4, z5, z6⟩ := blk7 k1
                have f0 := k1.frozen 0
                have f1 := k1.frozen 1
                have f2 := k1.frozen 2
                have f3 := k1.frozen 3
                have f4 := k1.frozen 4
                have f5 := k1.frozen 5
                have f6 := k1.frozen 6
                have H := Lib.hid (And.intro n1 (And.intro n2 (And.intro nR (And.intro nb no))))
                clear n1 n2 nR nb no k1 k2 kb c1 c2 cR cb hR5 hb5 ho5 hcall hown x0 x1 x2 x3 x4 x5 x6
                try clear HNX
                go_wp2
                go_roundw
                case rel => exact ⟨k + 1, (.slice AL' dl.length capL'), by omega, by go_num, H.out.1, H.out.2.1, H.out.2.2.1, H.out.2.2.2.1, H.out.2.2.2.2⟩
                case measure => simp [intOf]; omega
          · have hend := HCE.out k (by omega)
            rw [hend] at hR
            have hle' : ¬ (k : Int) ≤ la := hle
            have p1 := b1.set_ 2 (.slice none 0 0)
            have p2 := b2.far (p := ⟨w.heap.size, 2, none⟩) (show w.heap.size + 1 ≠ w.heap.size by omega) (.slice none 0 0)
            have pS := hR.secs.far (p := ⟨w.heap.size, 2, none⟩) (hR.secs.type_ne b1 (by decide)) (.slice none 0 0)
            have pb := hb.setCell (p := ⟨w.heap.size, 2, none⟩) (Nat.le_refl _) (.slice none 0 0)
            have r1 := p1.set_ 4 (.bool false)
            have r2 := p2.far (p := ⟨w.heap.size, 4, none⟩) (show w.heap.size + 1 ≠ w.heap.size by omega) (.bool false)
            have rS := pS.far (p := ⟨w.heap.size, 4, none⟩) (pS.type_ne p1 (by decide)) (.bool false)
            have rb := pb.setCell (p := ⟨w.heap.size, 4, none⟩) (Nat.le_refl _) (.bool false)
            have s1 : Blk _ w.heap.size 32 #[.int .i64 (ds : Int), (.slice AL dl.length capL), (.slice none 0 0), .int .i64 0, .bool false, .bool full, .int .i64 (ops : Int)] := r1.set_ 3 (.int .i64 0)
            have s2 := r2.far (p := ⟨w.heap.size, 3, none⟩) (show w.heap.size + 1 ≠ w.heap.size by omega) (.int .i64 0)
            have sS := rS.far (p := ⟨w.heap.size, 3, none⟩) (rS.type_ne r1 (by decide)) (.int .i64 0)
            have sb := rb.setCell (p := ⟨w.heap.size, 3, none⟩) (Nat.le_refl _) (.int .i64 0)
            have hB := blk_whole s2 (cs := #[.int .i64 (ds : Int), (.slice AL dl.length capL), (.slice none 0 0), .int .i64 0, .bool false, .bool full, .int .i64 (ops : Int)]) rfl
            have hBl := below_cells (o := 0) (vs := [.int .i64 (ds : Int), (.slice AL dl.length capL), (.slice none 0 0), .int .i64 0, .bool false, .bool full, .int .i64 (ops : Int)]) sb (show w.heap.size ≤ w.heap.size + 1 by omega)
            have hS : Sl _ 9 1 _ _ _ := sS.keep (w' := (((wr.setCell ⟨w.heap.size, 2, none⟩ (.slice none 0 0)).setCell ⟨w.heap.size, 4, none⟩ (.bool false)).setCell ⟨w.heap.size, 3, none⟩ (.int .i64 0)).setCells (w.heap.size + 1) 0 [.int .i64 (ds : Int), (.slice AL dl.length capL), (.slice none 0 0), .int .i64 0, .bool false, .bool full, .int .i64 (ops : Int)]) fun k hk => setCells_heap_ne _ _ _ _ _ (fun e => sS.type_ne s2 (by decide) (e ▸ hk))
            obtain ⟨t0, t1, t2, t3, t4, t5, t6⟩ := blk7 b1
            have g2 := b1.frozen 2
            have g4 := p1.frozen 4
            have g3 := r1.frozen 3
            have tp4 : (wr.setCell ⟨w.heap.size, 2, none⟩ (.slice none 0 0)).cell? ⟨w.heap.size, 4, none⟩ = some (.bool off) := (p1.cell 4).trans rfl
            have tr3 : ((wr.setCell ⟨w.heap.size, 2, none⟩ (.slice none 0 0)).setCell ⟨w.heap.size, 4, none⟩ (.bool false)).cell? ⟨w.heap.size, 3, none⟩ = some (.int .i64 (left : Int)) := (r1.cell 3).trans rfl
            obtain ⟨x0, x1, x2, x3, x4, x5, x6⟩ := blk7 s1
            obtain ⟨y0, y1, y2, y3, y4, y5, y6⟩ := blk7 s2
            have f0 := s2.frozen 0
            have f1 := s2.frozen 1
            have f2 := s2.frozen 2
            have f3 := s2.frozen 3
            have f4 := s2.frozen 4
            have f5 := s2.frozen 5
            have f6 := s2.frozen 6
            have HB := Lib.hid hB
            have HBL := Lib.hid hBl
            have HSS := Lib.hid hS
            have HO := Lib.hid hown
            clear b1 b2 hR hb hown p1 p2 pS pb r1 r2 rS rb s1 s2 sS sb hB hBl hS hend t0 t1 t3 t4 t5 t6
            go_wp2
            refine bodyPost_ret (results_single rfl (.cell _ 32 _ (0, 0) _ rfl HB.out Try.underlying32 rfl info_d .nil)) rfl ⟨_, .slice none 0 0, ?_, ?_, HBL.out, HO.out, fun k hk => by cases hk⟩
            · rw [HCR.out]; rfl
            · rw [HCR.out]
              exact ⟨HSS.out, Sl.nil _ _ _⟩
    · have hki : ¬ (k : Int) < (dc.length : Int) := by omega
      have hmin : k = min dc.length keep.length := by omega
      subst hmin
      have HR0 : Hid (RD wr (.slice A dl.length cap) (.slice A1 dc.length cap1) ⟨ds, CK 0, dc, left, off, full, ops⟩) := Lib.hid (by rw [HC0.out]; exact HRD.out.below hb)
      obtain ⟨la, hla⟩ : ∃ la, lastN keep (min dc.length keep.length) = la := ⟨_, rfl⟩
      have hlal := HLT.out (min dc.length keep.length)
      rw [hla] at hlal HCE HCF HCN
      simp only [hla]
      clear hla hkc1 hkk
      go_wp2
      go_loopw [10] (fun i wr => ∃ k : Nat, ∃ lvk : Value, (k : Int) ≤ la + 1 ∧ i = .int .i64 k ∧ Blk wr w.heap.size 32 #[.int .i64 (ds : Int), lvk, (.slice A1 dc.length cap1), .int .i64 (left : Int), .bool off, .bool full, .int .i64 (ops : Int)] ∧ Blk wr (w.heap.size + 1) 32 zero7 ∧ RD wr lvk (.slice A1 dc.length cap1) ⟨ds, CK k, dc, left, off, full, ops⟩ ∧ Below w.heap.size w wr ∧ (∀ j, own lvk j → own (.slice A dl.length cap) j ∨ w.heap.size ≤ j)) (fun i _ => (la + 1 - intOf i).toNat)
      case atStart => exact ⟨0, _, by omega, rfl, b1, b2, HR0.out, hb, fun j hj => .inl hj⟩
      case round =>
        clear b1 b2 hb HR0 x2
        obtain ⟨k, lvk, hkla, rfl, b1, b2, hR, hb, hown⟩ := hrel
        have HLL := Lib.hid (HCL.out k)
        obtain ⟨AL, capL, hlv, _⟩ := hR.secs.form
        simp only at hlv
        rw [HLL.out] at hlv
        subst hlv
        by_cases hle : (k : Int) ≤ la
        · have hlt : k < dc.length := by omega
          have hk2 : k < keep.length := by omega
          have hkj : (k : Int) < (keep.length : Int) := by omega
          have hki : (k : Int) < (dc.length : Int) := by omega
          obtain ⟨g1, o1, hA1, y1, y2⟩ := wr_at hR.cach hlt
          subst hA1
          obtain ⟨hat, hsz1⟩ := HWA.out _ (List.getElem_mem hlt)
          have hoff := HCF.out k hlt hle
          have hon := HCN.out k hlt hle
          have heach := HCS.out k
          try simp only at hoff
          try simp only at hon
          try simp only at heach
          try simp only at hat hsz1
          obtain ⟨⟨a, s⟩, has⟩ : ∃ x, dc[k] = x := ⟨_, rfl⟩
          rw [has] at y1 y2 hat hsz1
          try simp only [has] at hon
          try simp only at hat hsz1
          clear has
          obtain ⟨NK, hNK⟩ : ∃ NK, CK (k + 1) = NK := ⟨_, rfl⟩
          rw [hNK] at hoff hon
          have HNK := Lib.hid hNK
          clear hNK
          obtain ⟨LK, hLK⟩ : ∃ LK, CK k = LK := ⟨_, rfl⟩
          rw [hLK] at hR HLL hoff hon heach
          have HLK := Lib.hid hLK
          clear hLK
          have hb1 := b1.alloc (.cells #[.int .i64 (a : Int), .string s] 41)
          have hb2 := b2.alloc (.cells #[.int .i64 (a : Int), .string s] 41)
          have hbn := Blk.new wr 41 #[.int .i64 (a : Int), .string s]
          have hRn := hR.alloc (.cells #[.int .i64 (a : Int), .string s] 41)
          have hbb := hb.alloc hb.size (.cells #[.int .i64 (a : Int), .string s] 41)
          have hwq : w.heap.size + 1 < wr.heap.size := b2.lt
          obtain ⟨ad, hAd, hkb⟩ := bool_at (HK.out _ hbb) hk2
          subst hAd
          rw [List.getD_eq_getElem?_getD, List.getElem?_eq_getElem hk2, Option.getD_some] at hoff hon
          obtain ⟨kb, hkbe⟩ : ∃ kb, keep[k] = kb := ⟨_, rfl⟩
          rw [hkbe] at hkb hoff hon
          clear hkbe
          cases kb
          · have ho := hoff rfl
            have HF := Lib.hid (And.intro hb1 (And.intro hb2 (And.intro (show RD _ _ _ ⟨ds, CK (k + 1), dc, left, off, full, ops⟩ from by rw [HNK.out, ho]; exact hRn) hbb)))
            clear b1 b2 hR hb hb1 hb2 hbn hRn hbb ho hoff hon heach hat hsz1
            go_wp2
            go_roundw
            case rel => exact ⟨k + 1, _, by omega, by go_num, HF.out.1, HF.out.2.1, HF.out.2.2.1, HF.out.2.2.2, hown⟩
            case measure => simp [intOf]; omega
          · have ho := hon rfl
            clear hoff hon b1 b2 hR hb
            by_cases hL : (k : Int) = la
            · rw [if_pos hL] at ho
              by_cases h0 : 0 ≤ torn
              · by_cases h1 : torn < (ds : Int)
                · have hal : a < LK.length := by rw [HLL.out]; exact hat
                  have htear : tear ds torn LK (a, s) = s.extract 0 torn.toNat ++ LK[a].extract torn.toNat LK[a].size := by
                    unfold tear
                    rw [if_pos ⟨h0, h1⟩]
                    have : LK.getD a ⟨#[]⟩ = LK[a] := by rw [List.getD_eq_getElem?_getD, List.getElem?_eq_getElem (by rw [HLL.out]; exact hat)]; rfl
                    simp only [this]
                  rw [htear] at ho
                  clear htear
                  have hold := heach _ (List.getElem_mem hal)
                  obtain ⟨n, rfl⟩ : ∃ n : Nat, torn = n := ⟨torn.toNat, by omega⟩
                  rw [Int.toNat_natCast] at ho
                  have hSec : Sl (wr.alloc (.cells #[.int .i64 (a : Int), .string s] 41)) 9 1 (.slice AL dl.length capL) dl.length (LK.map Value.string) := by
                    have h := hRn.secs
                    simp only [HLL.out] at h
                    exact h
                  obtain ⟨g3, o3, c3, cur3, hv3, _⟩ := hSec.form_pos (by omega)
                  injection hv3 with q1 q2 q3
                  subst q1 q3
                  have hx := hSec.cell rfl (j := a) (by omega)
                  have hxs : (wr.alloc (.cells #[.int .i64 (a : Int), .string s] 41)).cell? ⟨g3, o3 + a, none⟩ = some (.string LK[a]) := by
                    rw [hx, List.getElem?_map, List.getElem?_eq_getElem hal]
                    rfl
                  obtain ⟨old, hold2⟩ : ∃ x, LK[a] = x := ⟨_, rfl⟩
                  rw [hold2] at hxs ho hold
                  obtain ⟨v, hv⟩ : ∃ v, s.extract 0 n ++ old.extract n old.size = v := ⟨_, rfl⟩
                  have hcat : (((s.extract 0 n).size : Int) + ((old.extract n old.size).size : Int)) ≤ 9223372036854775807 := by
                    rw [ByteArray.size_extract, ByteArray.size_extract]; omega
                  rw [hv] at ho
                  have hn1 : n ≤ s.size := by omega
                  have hn2 : n ≤ old.size := by omega
                  have hi1 : (n : Int) ≤ (s.size : Int) := by omega
                  have hi2 : (n : Int) ≤ (old.size : Int) := by omega
                  have hai : (a : Int) < (dl.length : Int) := by omega
                  have hbs : ¬ 9223372036854775807 < old.size := by omega
                  have hLb : ((k : Int) == la) = true := beq_iff_eq.mpr hL
                  clear hL
                  have HNX : Hid (CK (k + 1) = LK.set a v) := Lib.hid (by rw [HNK.out, ho])
                  obtain ⟨x0, x1, x2, x3, x4, x5, x6⟩ := blk7 hb1
                  clear ho hold hold2 hx hSec heach hsz1 x2 x3 x4 x5 x6
                  have H0 := Lib.hid (And.intro hb1 (And.intro hb2 (And.intro hRn (And.intro hbb hbn))))
                  clear hb1 hb2 hRn hbb hbn
                  go_wp2
                  change Code.wp _ _ _ _ (wr.alloc (.cells #[.int .i64 (a : Int), .string s] 41))
                  obtain ⟨hb1, hb2, hRn, hbb, hbn⟩ := H0.out
                  clear H0 x0 x1
                  generalize wr.alloc (.cells #[.int .i64 (a : Int), .string s] 41) = w2 at hb1 hb2 hRn hbb hbn hxs ⊢
                  have e1 : w2.cell? ⟨w.heap.size, 1, none⟩ = some (.slice (some ⟨g3, o3, none⟩) dl.length capL) := (hb1.cell 1).trans rfl
                  have e4 : w2.cell? ⟨wr.heap.size, 0, none⟩ = some (.int .i64 (a : Int)) := (hbn.cell 0).trans rfl
                  have e5 : w2.cell? ⟨wr.heap.size, 1, none⟩ = some (.string s) := (hbn.cell 1).trans rfl
                  go_still_tail 14, (by kernel_rfl)
                  change wpList _ _ _ _ _ w2.drew
                  have u1 := hb1.drew
                  have u2 := hb2.drew
                  have uR := hRn.drew
                  have ub := hbb.drew
                  have un := hbn.drew
                  clear hb1 hb2 hRn hbb hbn hxs e1 e4 e5
                  generalize w2.drew = w3 at u1 u2 uR ub un ⊢
                  have hc1 : w3.cell? ⟨wr.heap.size, 1, none⟩ = some (.string s) := (un.cell 1).trans rfl
                  have hf1 := un.frozen 1
                  have c1 := u1.far (p := ⟨wr.heap.size, 1, none⟩) (show w.heap.size ≠ wr.heap.size by omega) (.string v)
                  have c2 := u2.far (p := ⟨wr.heap.size, 1, none⟩) (show w.heap.size + 1 ≠ wr.heap.size by omega) (.string v)
                  have cn := un.set_ 1 (.string v)
                  have cR : RD (w3.setCell ⟨wr.heap.size, 1, none⟩ (.string v)) (.slice (some ⟨g3, o3, none⟩) dl.length capL) (.slice (some ⟨g1, o1, none⟩) dc.length cap1) ⟨ds, LK, dc, left, off, full, ops⟩ :=
                    ⟨uR.secs.far (p := ⟨wr.heap.size, 1, none⟩) (uR.secs.type_ne un (by decide)) _, uR.cach.far (p := ⟨wr.heap.size, 1, none⟩) (fun e => by have h9 : wr.heap.size < w.heap.size := HCV.out _ e; omega) _⟩
                  have cb := ub.setCell (p := ⟨wr.heap.size, 1, none⟩) (show w.heap.size ≤ wr.heap.size by omega) (.string v)
                  have m0 : (w3.setCell ⟨wr.heap.size, 1, none⟩ (.string v)).cell? ⟨wr.heap.size, 0, none⟩ = some (.int .i64 (a : Int)) := (cn.cell 0).trans rfl
                  have m1 : (w3.setCell ⟨wr.heap.size, 1, none⟩ (.string v)).cell? ⟨wr.heap.size, 1, none⟩ = some (.string v) := (cn.cell 1).trans rfl
                  clear u1 u2 uR ub un cn hcat hv hi1 hi2
                  have hcall := fun W (hW : RD W (.slice (some ⟨g3, o3, none⟩) dl.length capL) (.slice (some ⟨g1, o1, none⟩) dc.length cap1) ⟨ds, LK, dc, left, off, full, ops⟩) => rland_calls W _ _ _ hW a v (by rw [HLL.out]; exact hat) (by rw [HLL.out]; exact hn)
                  simp only [dcells_mk] at hcall
                  obtain ⟨x0, x1, x2, x3, x4, x5, x6⟩ := blk7 c1
                  clear hat
                  go_wp2_with fail
                  refine (hcall _ cR).mono ?_
                  rintro e w5 ⟨lv', rfl, hR5, hb5, ho5⟩
                  obtain ⟨AL', capL', hlv', _⟩ := hR5.secs.form
                  simp only [List.length_set] at hlv'
                  rw [HLL.out] at hlv'
                  subst hlv'
                  have k1 := c1.below hb5
                  have k2 := c2.below hb5
                  have kb := cb.trans (hb5.mono cb.size)
                  have n1 := blk_whole k1 (cs := #[.int .i64 (ds : Int), (.slice AL' dl.length capL'), (.slice (some ⟨g1, o1, none⟩) dc.length cap1), .int .i64 (left : Int), .bool off, .bool full, .int .i64 (ops : Int)]) rfl
                  have n2 := blk_whole_far k2 (g' := w.heap.size) (by omega) [.int .i64 (ds : Int), (.slice AL' dl.length capL'), (.slice (some ⟨g1, o1, none⟩) dc.length cap1), .int .i64 (left : Int), .bool off, .bool full, .int .i64 (ops : Int)] 0
                  have nR := RD.cells hR5 k1 [.int .i64 (ds : Int), (.slice AL' dl.length capL'), (.slice (some ⟨g1, o1, none⟩) dc.length cap1), .int .i64 (left : Int), .bool off, .bool full, .int .i64 (ops : Int)] 0
                  have nb := below_cells (o := 0) (vs := [.int .i64 (ds : Int), (.slice AL' dl.length capL'), (.slice (some ⟨g1, o1, none⟩) dc.length cap1), .int .i64 (left : Int), .bool off, .bool full, .int .i64 (ops : Int)]) kb (Nat.le_refl _)
                  have no : ∀ j, own (.slice AL' dl.length capL') j → own (.slice A dl.length cap) j ∨ w.heap.size ≤ j := fun j hj => .inr (by have := ho5 j hj; have := cb.size; omega)
                  rw [← HNX.out] at nR
                  obtain ⟨z0, z1, z2, z3, z4, z5, z6⟩ := blk7 k1
                  have f0 := k1.frozen 0
                  have f1 := k1.frozen 1
                  have f2 := k1.frozen 2
                  have f3 := k1.frozen 3
                  have f4 := k1.frozen 4
                  have f5 := k1.frozen 5
                  have f6 := k1.frozen 6
                  have H := Lib.hid (And.intro n1 (And.intro n2 (And.intro nR (And.intro nb no))))
                  clear n1 n2 nR nb no k1 k2 kb c1 c2 cR cb hR5 hb5 ho5 hcall hown x0 x1 x2 x3 x4 x5 x6
                  try clear HNX
                  go_wp2
                  go_roundw
                  case rel => exact ⟨k + 1, (.slice AL' dl.length capL'), by omega, by go_num, H.out.1, H.out.2.1, H.out.2.2.1, H.out.2.2.2.1, H.out.2.2.2.2⟩
                  case measure => simp [intOf]; omega
                · have htear : tear ds torn LK (a, s) = s := by unfold tear; rw [if_neg (by omega)]
                  rw [htear] at ho
                  clear htear
                  have hLb : ((k : Int) == la) = true := beq_iff_eq.mpr hL
                  clear hL
                  have c1 := hb1
                  have c2 := hb2
                  have cR := hRn
                  have cb := hbb
                  have m0 : (wr.alloc (.cells #[.int .i64 (a : Int), .string s] 41)).cell? ⟨wr.heap.size, 0, none⟩ = some (.int .i64 (a : Int)) := (hbn.cell 0).trans rfl
                  have m1 : (wr.alloc (.cells #[.int .i64 (a : Int), .string s] 41)).cell? ⟨wr.heap.size, 1, none⟩ = some (.string s) := (hbn.cell 1).trans rfl
                  have HNX : Hid (CK (k + 1) = LK.set a s) := Lib.hid (by rw [HNK.out, ho])
                  clear hb1 hb2 hRn hbb hbn heach hsz1 ho
                  have hcall := fun W (hW : RD W (.slice AL dl.length capL) (.slice (some ⟨g1, o1, none⟩) dc.length cap1) ⟨ds, LK, dc, left, off, full, ops⟩) => rland_calls W _ _ _ hW a s (by rw [HLL.out]; exact hat) (by rw [HLL.out]; exact hn)
                  simp only [dcells_mk] at hcall
                  obtain ⟨x0, x1, x2, x3, x4, x5, x6⟩ := blk7 c1
                  clear hat
                  go_wp2_with fail
                  refine (hcall _ cR).mono ?_
                  rintro e w5 ⟨lv', rfl, hR5, hb5, ho5⟩
                  obtain ⟨AL', capL', hlv', _⟩ := hR5.secs.form
                  simp only [List.length_set] at hlv'
                  rw [HLL.out] at hlv'
                  subst hlv'
                  have k1 := c1.below hb5
                  have k2 := c2.below hb5
                  have kb := cb.trans (hb5.mono cb.size)
                  have n1 := blk_whole k1 (cs := #[.int .i64 (ds : Int), (.slice AL' dl.length capL'), (.slice (some ⟨g1, o1, none⟩) dc.length cap1), .int .i64 (left : Int), .bool off, .bool full, .int .i64 (ops : Int)]) rfl
                  have n2 := blk_whole_far k2 (g' := w.heap.size) (by omega) [.int .i64 (ds : Int), (.slice AL' dl.length capL'), (.slice (some ⟨g1, o1, none⟩) dc.length cap1), .int .i64 (left : Int), .bool off, .bool full, .int .i64 (ops : Int)] 0
                  have nR := RD.cells hR5 k1 [.int .i64 (ds : Int), (.slice AL' dl.length capL'), (.slice (some ⟨g1, o1, none⟩) dc.length cap1), .int .i64 (left : Int), .bool off, .bool full, .int .i64 (ops : Int)] 0
                  have nb := below_cells (o := 0) (vs := [.int .i64 (ds : Int), (.slice AL' dl.length capL'), (.slice (some ⟨g1, o1, none⟩) dc.length cap1), .int .i64 (left : Int), .bool off, .bool full, .int .i64 (ops : Int)]) kb (Nat.le_refl _)
                  have no : ∀ j, own (.slice AL' dl.length capL') j → own (.slice A dl.length cap) j ∨ w.heap.size ≤ j := fun j hj => .inr (by have := ho5 j hj; have := cb.size; omega)
                  rw [← HNX.out] at nR
                  obtain ⟨z0, z1, z2, z3, z4, z5, z6⟩ := blk7 k1
                  have f0 := k1.frozen 0
                  have f1 := k1.frozen 1
                  have f2 := k1.frozen 2
                  have f3 := k1.frozen 3
                  have f4 := k1.frozen 4
                  have f5 := k1.frozen 5
                  have f6 := k1.frozen 6
                  have H := Lib.hid (And.intro n1 (And.intro n2 (And.intro nR (And.intro nb no))))
                  clear n1 n2 nR nb no k1 k2 kb c1 c2 cR cb hR5 hb5 ho5 hcall hown x0 x1 x2 x3 x4 x5 x6
                  try clear HNX
                  go_wp2
                  go_roundw
                  case rel => exact ⟨k + 1, (.slice AL' dl.length capL'), by omega, by go_num, H.out.1, H.out.2.1, H.out.2.2.1, H.out.2.2.2.1, H.out.2.2.2.2⟩
                  case measure => simp [intOf]; omega
              · have htear : tear ds torn LK (a, s) = s := by unfold tear; rw [if_neg (by omega)]
                rw [htear] at ho
                clear htear
                have hLb : ((k : Int) == la) = true := beq_iff_eq.mpr hL
                clear hL
                have c1 := hb1
                have c2 := hb2
                have cR := hRn
                have cb := hbb
                have m0 : (wr.alloc (.cells #[.int .i64 (a : Int), .string s] 41)).cell? ⟨wr.heap.size, 0, none⟩ = some (.int .i64 (a : Int)) := (hbn.cell 0).trans rfl
                have m1 : (wr.alloc (.cells #[.int .i64 (a : Int), .string s] 41)).cell? ⟨wr.heap.size, 1, none⟩ = some (.string s) := (hbn.cell 1).trans rfl
                have HNX : Hid (CK (k + 1) = LK.set a s) := Lib.hid (by rw [HNK.out, ho])
                clear hb1 hb2 hRn hbb hbn heach hsz1 ho
                have hcall := fun W (hW : RD W (.slice AL dl.length capL) (.slice (some ⟨g1, o1, none⟩) dc.length cap1) ⟨ds, LK, dc, left, off, full, ops⟩) => rland_calls W _ _ _ hW a s (by rw [HLL.out]; exact hat) (by rw [HLL.out]; exact hn)
                simp only [dcells_mk] at hcall
                obtain ⟨x0, x1, x2, x3, x4, x5, x6⟩ := blk7 c1
                clear hat
                go_wp2_with fail
                refine (hcall _ cR).mono ?_
                rintro e w5 ⟨lv', rfl, hR5, hb5, ho5⟩
                obtain ⟨AL', capL', hlv', _⟩ := hR5.secs.form
                simp only [List.length_set] at hlv'
                rw [HLL.out] at hlv'
                subst hlv'
                have k1 := c1.below hb5
                have k2 := c2.below hb5
                have kb := cb.trans (hb5.mono cb.size)
                have n1 := blk_whole k1 (cs := #[.int .i64 (ds : Int), (.slice AL' dl.length capL'), (.slice (some ⟨g1, o1, none⟩) dc.length cap1), .int .i64 (left : Int), .bool off, .bool full, .int .i64 (ops : Int)]) rfl
                have n2 := blk_whole_far k2 (g' := w.heap.size) (by omega) [.int .i64 (ds : Int), (.slice AL' dl.length capL'), (.slice (some ⟨g1, o1, none⟩) dc.length cap1), .int .i64 (left : Int), .bool off, .bool full, .int .i64 (ops : Int)] 0
                have nR := RD.cells hR5 k1 [.int .i64 (ds : Int), (.slice AL' dl.length capL'), (.slice (some ⟨g1, o1, none⟩) dc.length cap1), .int .i64 (left : Int), .bool off, .bool full, .int .i64 (ops : Int)] 0
                have nb := below_cells (o := 0) (vs := [.int .i64 (ds : Int), (.slice AL' dl.length capL'), (.slice (some ⟨g1, o1, none⟩) dc.length cap1), .int .i64 (left : Int), .bool off, .bool full, .int .i64 (ops : Int)]) kb (Nat.le_refl _)
                have no : ∀ j, own (.slice AL' dl.length capL') j → own (.slice A dl.length cap) j ∨ w.heap.size ≤ j := fun j hj => .inr (by have := ho5 j hj; have := cb.size; omega)
                rw [← HNX.out] at nR
                obtain ⟨z0, z1, z2, z3, z4, z5, z6⟩ := blk7 k1
                have f0 := k1.frozen 0
                have f1 := k1.frozen 1
                have f2 := k1.frozen 2
                have f3 := k1.frozen 3
                have f4 := k1.frozen 4
                have f5 := k1.frozen 5
                have f6 := k1.frozen 6
                have H := Lib.hid (And.intro n1 (And.intro n2 (And.intro nR (And.intro nb no))))
                clear n1 n2 nR nb no k1 k2 kb c1 c2 cR cb hR5 hb5 ho5 hcall hown x0 x1 x2 x3 x4 x5 x6
                try clear HNX
                go_wp2
                go_roundw
                case rel => exact ⟨k + 1, (.slice AL' dl.length capL'), by omega, by go_num, H.out.1, H.out.2.1, H.out.2.2.1, H.out.2.2.2.1, H.out.2.2.2.2⟩
                case measure => simp [intOf]; omega
            · rw [if_neg hL] at ho
              have hLb : ((k : Int) == la) = false := beq_eq_false_iff_ne.mpr hL
              have c1 := hb1
              have c2 := hb2
              have cR := hRn
              have cb := hbb
              have m0 : (wr.alloc (.cells #[.int .i64 (a : Int), .string s] 41)).cell? ⟨wr.heap.size, 0, none⟩ = some (.int .i64 (a : Int)) := (hbn.cell 0).trans rfl
              have m1 : (wr.alloc (.cells #[.int .i64 (a : Int), .string s] 41)).cell? ⟨wr.heap.size, 1, none⟩ = some (.string s) := (hbn.cell 1).trans rfl
              have HNX : Hid (CK (k + 1) = LK.set a s) := Lib.hid (by rw [HNK.out, ho])
              clear hb1 hb2 hRn hbb hbn heach hsz1 ho
              have hcall := fun W (hW : RD W (.slice AL dl.length capL) (.slice (some ⟨g1, o1, none⟩) dc.length cap1) ⟨ds, LK, dc, left, off, full, ops⟩) => rland_calls W _ _ _ hW a s (by rw [HLL.out]; exact hat) (by rw [HLL.out]; exact hn)
              simp only [dcells_mk] at hcall
              obtain ⟨x0, x1, x2, x3, x4, x5, x6⟩ := blk7 c1
              clear hat
              go_wp2_with fail
              refine (hcall _ cR).mono ?_
              rintro e w5 ⟨lv', rfl, hR5, hb5, ho5⟩
              obtain ⟨AL', capL', hlv', _⟩ := hR5.secs.form
              simp only [List.length_set] at hlv'
              rw [HLL.out] at hlv'
              subst hlv'
              have k1 := c1.below hb5
              have k2 := c2.below hb5
              have kb := cb.trans (hb5.mono cb.size)
              have n1 := blk_whole k1 (cs := #[.int .i64 (ds : Int), (.slice AL' dl.length capL'), (.slice (some ⟨g1, o1, none⟩) dc.length cap1), .int .i64 (left : Int), .bool off, .bool full, .int .i64 (ops : Int)]) rfl
              have n2 := blk_whole_far k2 (g' := w.heap.size) (by omega) [.int .i64 (ds : Int), (.slice AL' dl.length capL'), (.slice (some ⟨g1, o1, none⟩) dc.length cap1), .int .i64 (left : Int), .bool off, .bool full, .int .i64 (ops : Int)] 0
              have nR := RD.cells hR5 k1 [.int .i64 (ds : Int), (.slice AL' dl.length capL'), (.slice (some ⟨g1, o1, none⟩) dc.length cap1), .int .i64 (left : Int), .bool off, .bool full, .int .i64 (ops : Int)] 0
              have nb := below_cells (o := 0) (vs := [.int .i64 (ds : Int), (.slice AL' dl.length capL'), (.slice (some ⟨g1, o1, none⟩) dc.length cap1), .int .i64 (left : Int), .bool off, .bool full, .int .i64 (ops : Int)]) kb (Nat.le_refl _)
              have no : ∀ j, own (.slice AL' dl.length capL') j → own (.slice A dl.length cap) j ∨ w.heap.size ≤ j := fun j hj => .inr (by have := ho5 j hj; have := cb.size; omega)
              rw [← HNX.out] at nR
              obtain ⟨z0, z1, z2, z3, z4, z5, z6⟩ := blk7 k1
              have f0 := k1.frozen 0
              have f1 := k1.frozen 1
              have f2 := k1.frozen 2
              have f3 := k1.frozen 3
              have f4 := k1.frozen 4
              have f5 := k1.frozen 5
              have f6 := k1.frozen 6
              have H := Lib.hid (And.intro n1 (And.intro n2 (And.intro nR (And.intro nb no))))
              clear n1 n2 nR nb no k1 k2 kb c1 c2 cR cb hR5 hb5 ho5 hcall hown x0 x1 x2 x3 x4 x5 x6
              try clear HNX
              go_wp2
              go_roundw
              case rel => exact ⟨k + 1, (.slice AL' dl.length capL'), by omega, by go_num, H.out.1, H.out.2.1, H.out.2.2.1, H.out.2.2.2.1, H.out.2.2.2.2⟩
              case measure => simp [intOf]; omega
        · have hend := HCE.out k (by omega)
          rw [hend] at hR
          have hle' : ¬ (k : Int) ≤ la := hle
          have p1 := b1.set_ 2 (.slice none 0 0)
          have p2 := b2.far (p := ⟨w.heap.size, 2, none⟩) (show w.heap.size + 1 ≠ w.heap.size by omega) (.slice none 0 0)
          have pS := hR.secs.far (p := ⟨w.heap.size, 2, none⟩) (hR.secs.type_ne b1 (by decide)) (.slice none 0 0)
          have pb := hb.setCell (p := ⟨w.heap.size, 2, none⟩) (Nat.le_refl _) (.slice none 0 0)
          have r1 := p1.set_ 4 (.bool false)
          have r2 := p2.far (p := ⟨w.heap.size, 4, none⟩) (show w.heap.size + 1 ≠ w.heap.size by omega) (.bool false)
          have rS := pS.far (p := ⟨w.heap.size, 4, none⟩) (pS.type_ne p1 (by decide)) (.bool false)
          have rb := pb.setCell (p := ⟨w.heap.size, 4, none⟩) (Nat.le_refl _) (.bool false)
          have s1 : Blk _ w.heap.size 32 #[.int .i64 (ds : Int), (.slice AL dl.length capL), (.slice none 0 0), .int .i64 0, .bool false, .bool full, .int .i64 (ops : Int)] := r1.set_ 3 (.int .i64 0)
          have s2 := r2.far (p := ⟨w.heap.size, 3, none⟩) (show w.heap.size + 1 ≠ w.heap.size by omega) (.int .i64 0)
          have sS := rS.far (p := ⟨w.heap.size, 3, none⟩) (rS.type_ne r1 (by decide)) (.int .i64 0)
          have sb := rb.setCell (p := ⟨w.heap.size, 3, none⟩) (Nat.le_refl _) (.int .i64 0)
          have hB := blk_whole s2 (cs := #[.int .i64 (ds : Int), (.slice AL dl.length capL), (.slice none 0 0), .int .i64 0, .bool false, .bool full, .int .i64 (ops : Int)]) rfl
          have hBl := below_cells (o := 0) (vs := [.int .i64 (ds : Int), (.slice AL dl.length capL), (.slice none 0 0), .int .i64 0, .bool false, .bool full, .int .i64 (ops : Int)]) sb (show w.heap.size ≤ w.heap.size + 1 by omega)
          have hS : Sl _ 9 1 _ _ _ := sS.keep (w' := (((wr.setCell ⟨w.heap.size, 2, none⟩ (.slice none 0 0)).setCell ⟨w.heap.size, 4, none⟩ (.bool false)).setCell ⟨w.heap.size, 3, none⟩ (.int .i64 0)).setCells (w.heap.size + 1) 0 [.int .i64 (ds : Int), (.slice AL dl.length capL), (.slice none 0 0), .int .i64 0, .bool false, .bool full, .int .i64 (ops : Int)]) fun k hk => setCells_heap_ne _ _ _ _ _ (fun e => sS.type_ne s2 (by decide) (e ▸ hk))
          obtain ⟨t0, t1, t2, t3, t4, t5, t6⟩ := blk7 b1
          have g2 := b1.frozen 2
          have g4 := p1.frozen 4
          have g3 := r1.frozen 3
          have tp4 : (wr.setCell ⟨w.heap.size, 2, none⟩ (.slice none 0 0)).cell? ⟨w.heap.size, 4, none⟩ = some (.bool off) := (p1.cell 4).trans rfl
          have tr3 : ((wr.setCell ⟨w.heap.size, 2, none⟩ (.slice none 0 0)).setCell ⟨w.heap.size, 4, none⟩ (.bool false)).cell? ⟨w.heap.size, 3, none⟩ = some (.int .i64 (left : Int)) := (r1.cell 3).trans rfl
          obtain ⟨x0, x1, x2, x3, x4, x5, x6⟩ := blk7 s1
          obtain ⟨y0, y1, y2, y3, y4, y5, y6⟩ := blk7 s2
          have f0 := s2.frozen 0
          have f1 := s2.frozen 1
          have f2 := s2.frozen 2
          have f3 := s2.frozen 3
          have f4 := s2.frozen 4
          have f5 := s2.frozen 5
          have f6 := s2.frozen 6
          have HB := Lib.hid hB
          have HBL := Lib.hid hBl
          have HSS := Lib.hid hS
          have HO := Lib.hid hown
          clear b1 b2 hR hb hown p1 p2 pS pb r1 r2 rS rb s1 s2 sS sb hB hBl hS hend t0 t1 t3 t4 t5 t6
          go_wp2
          refine bodyPost_ret (results_single rfl (.cell _ 32 _ (0, 0) _ rfl HB.out Try.underlying32 rfl info_d .nil)) rfl ⟨_, .slice none 0 0, ?_, ?_, HBL.out, HO.out, fun k hk => by cases hk⟩
          · rw [HCR.out]; rfl
          · rw [HCR.out]
            exact ⟨HSS.out, Sl.nil _ _ _⟩
end Go.Proofs.Ytohflbmmglmhhaa.Dk
