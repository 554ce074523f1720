-- Written by a program (print.py's text, with contracts of this session's own put in). Not trusted: Lean checks it.
import Derived.Test.YtaflpmpffppfaaaDoorX0
import Derived.Test.YtaflpmpffppfaaaDoorX2
namespace Go.Proofs.YtaflpmpffppfaaaDoor.X
open Go.RowKit Go.Proofs.YtaflpmpffppfaaaDoorW.PrintWords Go.Proofs.YtaflpmpffppfaaaDoorW.PrintLast Go.Proofs.YtaflpmpffppfaaaDoorW.PrintMore
attribute [local go_sem] max2_int min2_int max_two min_two max_three min_three max_four min_four   -- for this text's walks alone
set_option linter.unusedVariables false
set_option linter.unusedSimpArgs false

/-! ### qp_Encode: function 9, a contract written by hand -/
-- IMPORT Derived.Test.YtaflpmpffppfaaaDoorQpP
-- IMPORT Derived.Test.YtaflpmpffppfaaaDoorBldG
def qp_Encode.f (a0 : ByteArray) : Option ByteArray := if a0.size ≤ 1000000 then some (Aid.S (QpP.enc (Aid.L a0))) else none
theorem qp_Encode.w_ : ∀ n : Nat, n < 256 → ∀ b : Bool, qp_written.f (n : Int) b = some (Aid.S (QpP.wr (UInt8.ofNat n) b)) := by decide +kernel
theorem qp_Encode.wr_ (c : UInt8) (b : Bool) : qp_written.f (c.toNat : Int) b = some (Aid.S (QpP.wr c b)) := by
  have := qp_Encode.w_ c.toNat c.toNat_lt b
  rwa [UInt8.ofNat_toNat] at this
/-- what is left to be written -/
theorem qp_Encode.step (out : List UInt8) (l : List UInt8) (k n : Nat) (c : UInt8) (hk : k < l.length) (hc : l[k] = c) (w : List UInt8) (hw : QpP.wr c (decide (k + 1 = l.length)) = w) (r : List UInt8) (h : out ++ QpP.lineGo (l.drop k) n = r) :
    (if 75 < n + w.length then out ++ [61, 13, 10] ++ w ++ QpP.lineGo (l.drop (k + 1)) w.length else out ++ w ++ QpP.lineGo (l.drop (k + 1)) (n + w.length)) = r := by
  rw [List.drop_eq_getElem_cons hk, hc, QpP.lineGo] at h
  have e : (l.drop (k + 1)).isEmpty = decide (k + 1 = l.length) := by
    rw [Bool.eq_iff_iff, List.isEmpty_iff, List.drop_eq_nil_iff, decide_eq_true_eq]
    omega
  rw [e, hw] at h
  rw [← h]
  split
  · simp [List.append_assoc]
  · simp [List.append_assoc]
/-- a builder whose row lies from lo on -/
def bj (w : World) (b lo : Nat) (acc : ByteArray) : Prop := ∃ p v, Mem.Bl w b 37 #[p, v] 0 v acc.data.toList ∧ (acc.data.toList = [] → v = .slice none 0 0) ∧ ∀ k, Mem.own v k → lo ≤ k
theorem bj_lies (p v : Value) : liesAt Tryd.prog Tryd.prog.depth 37 ((#[p, v] : Array Value).size / Tryd.prog.cellsOf 37) 0 37 1 = true := by
  show liesAt Tryd.prog Tryd.prog.depth 37 (2 / Tryd.prog.cellsOf 37) 0 37 1 = true
  kernel_rfl
theorem bj_new (w : World) (lo : Nat) : bj (w.alloc (.cells #[.pointer none, .slice none 0 0] 37)) w.heap.size lo ⟨#[]⟩ :=
  ⟨_, _, ⟨Mem.Blk.new w _ _, .inl rfl, rfl, Mem.SlF.nil _ _, by decide, bj_lies _ _⟩, fun _ => rfl, fun k hk => by cases hk⟩
theorem bj_lt {w : World} {b lo : Nat} {acc : ByteArray} (h : bj w b lo acc) : b < w.heap.size := by
  obtain ⟨p, v, h, _⟩ := h
  exact h.blk.lt
theorem bj_only {w w' : World} {b lo : Nat} {acc : ByteArray} {F : Nat → Prop} (h : bj w b lo acc) (ho : Mem.Only F w w') (h1 : ¬ F b) (h2 : ∀ k, lo ≤ k → ¬ F k) : bj w' b lo acc := by
  obtain ⟨p, v, h, h3, h4⟩ := h
  exact ⟨p, v, ⟨ho.blk h.blk h1, h.addr, h.buf, h.row.only ho (fun k hk => h2 k (h4 k hk)), h.ne, h.lies⟩, h3, h4⟩
theorem bj_below {w w' : World} {b lo : Nat} {acc : ByteArray} (h : bj w b lo acc) (hb : Below w.heap.size w w') : bj w' b lo acc :=
  bj_only h (Mem.Only.of_below hb Mem.none_) id (fun _ _ => id)
theorem bj_write {w : World} {b lo : Nat} {acc : ByteArray} (h : bj w b lo acc) (hlo : lo ≤ w.heap.size) (s : ByteArray) (hlen : acc.size + s.size ≤ 140737488355328) :
    Calls Tryd.prog 16 #[.pointer (some ⟨b, 0, none⟩), .string s] w fun e w' => e = .returned (.tuple #[.int .i64 s.size, .nilIface]) ∧ bj w' b lo (acc ++ s) ∧ Mem.Only (fun k => k = b ∨ lo ≤ k) w w' := by
  obtain ⟨p, v, h, h3, h4⟩ := h
  have hz : acc.data.toList.length = acc.size := by simp
  refine (Mem.bld_WriteString2 h s (by omega)).mono ?_
  rintro e w2 ⟨rfl, v', hb2, ho2, hv2, hv3⟩
  have hd : (acc ++ s).data.toList = acc.data.toList ++ s.data.toList := by simp
  refine ⟨rfl, ⟨_, v', by rw [hd]; exact hb2, fun e => ?_, fun k hk => (hv2 k hk).elim (h4 k) (fun e => Nat.le_trans hlo e)⟩, ho2.mono fun k hk => hk.imp_right (h4 k)⟩
  rw [hd, List.append_eq_nil_iff] at e
  have hs : s.data.toList.length = s.size := by simp
  rw [hv3 (by rw [e.2] at hs; simpa using hs.symm)]
  exact h3 e.1
theorem bj_string {w : World} {b lo : Nat} {acc : ByteArray} (h : bj w b lo acc) :
    Calls Tryd.prog 18 #[.pointer (some ⟨b, 0, none⟩)] w fun e w' => e = .returned (.string acc) ∧ Mem.Only (fun k => lo ≤ k) w w' := by
  obtain ⟨p, v, h, h3, h4⟩ := h
  refine (Mem.bld_String h h3).mono ?_
  rintro e w2 ⟨rfl, hb2, ho2⟩
  exact ⟨by cases acc; rfl, ho2.mono h4⟩
/-- the first lines, written -/
def qp_Encode.done (ps : List (List UInt8)) (j : Nat) : List UInt8 := QpP.joinE ((ps.take j).map fun p => QpP.lineGo p 0)
theorem qp_Encode.done_succ (ps : List (List UInt8)) (j : Nat) (h : j < ps.length) : qp_Encode.done ps (j + 1) = (if j = 0 then [] else qp_Encode.done ps j ++ [13, 10]) ++ QpP.lineGo ps[j] 0 := by
  unfold qp_Encode.done
  rw [List.take_succ_eq_append_getElem h, List.map_append, List.map_cons, List.map_nil, QpP.joinE_snoc]
  by_cases hj : j = 0
  · subst hj; simp
  · have : (ps.take j).map (fun p => QpP.lineGo p 0) ≠ [] := by
      intro e
      have := congrArg List.length e
      rw [List.length_map, List.length_take, List.length_nil] at this
      omega
    rw [if_neg this, if_neg hj]
theorem qp_Encode.ret_str {a b : ByteArray} (h : a = b) : Ending.returned (.string a) = .returned (.string b) := by rw [h]
set_option maxHeartbeats 4000000 in
set_option maxRecDepth 100000 in
theorem qp_Encode.calls (a0 : ByteArray) (r : ByteArray) (w : World) (hT0 : Aside0 (Tabs w)) (h : qp_Encode.f a0 = some r) :
    Calls Tryd.prog 9 #[.string a0] w fun e w' => e = .returned (.string r) ∧ Below w.heap.size w w' := by
  unfold qp_Encode.f at h
  by_cases hsz : a0.size ≤ 1000000
  case neg => rw [if_neg hsz] at h; cases h
  rw [if_pos hsz] at h
  obtain rfl := Option.some.inj h
  clear h
  obtain ⟨m, hm⟩ := hT0.out.max
  have hm2 : (w.alloc (.cells #[.pointer none, .slice none 0 0] 37)).cell? ⟨0, 0, none⟩ = some (.int .i64 m) := (((Below.refl _ w).alloc (Nat.le_refl _) _).cell (World.block_lt_of_cell? w _ hm)).trans hm
  have hsplit := Tryd.strings_Split a0 ⟨#[13, 10]⟩ m _ (by omega) hm2 (by decide)
  have hall := Go.Lib.splitB_all ⟨#[13, 10]⟩ (by decide) 0 _ a0 rfl
  rw [PcL.split_pcs a0.size a0 (Nat.le_refl _)] at hsplit hall
  obtain ⟨hpl, hpn⟩ := PcL.pcs_size (Aid.L a0).length (Aid.L a0) (Nat.le_refl _)
  rw [← Aid.sz] at hpl hpn
  have hE : QpP.enc (Aid.L a0) = qp_Encode.done (PcL.pcs (Aid.L a0)) (PcL.pcs (Aid.L a0)).length := by
    unfold qp_Encode.done QpP.enc
    rw [List.take_length]
  obtain ⟨ps, hps⟩ : ∃ ps, PcL.pcs (Aid.L a0) = ps := ⟨_, rfl⟩
  rw [hps] at hsplit hall hpl hpn hE
  rw [List.length_map] at hall
  rw [← hall] at hsplit
  have HE := Lib.hid hE
  have HM := Lib.hid hm2
  have hb0 := bj_new w (w.heap.size + 1 + 1)
  clear hall hm hm2 hE hps
  go_enter Tryd.func9, Tryd.ntmps9
  go_wp2_with fail
  refine hsplit.mono ?_
  rintro e w1 ⟨rfl, rfl⟩
  clear hsplit
  have hb1 := bj_below hb0 ((Below.refl _ (w.alloc (.cells #[.pointer none, .slice none 0 0] 37))).alloc (Nat.le_refl _) (.cells ((ps.map Aid.S).map Value.string).toArray 9))
  have hg1 := Mem.Blk.new (w.alloc (.cells #[.pointer none, .slice none 0 0] 37)) 9 ((ps.map Aid.S).map Value.string).toArray
  have hB1 : Below w.heap.size w ((w.alloc (.cells #[.pointer none, .slice none 0 0] 37)).alloc (.cells ((ps.map Aid.S).map Value.string).toArray 9)) := ((Below.refl _ w).alloc (Nat.le_refl _) _).alloc (by simp) _
  simp only [World.size_alloc] at hg1 ⊢
  obtain ⟨w1, hw1⟩ : ∃ x, (w.alloc (.cells #[.pointer none, .slice none 0 0] 37)).alloc (.cells ((ps.map Aid.S).map Value.string).toArray 9) = x := ⟨_, rfl⟩
  obtain ⟨b, hb⟩ : ∃ x, w.heap.size = x := ⟨_, rfl⟩
  obtain ⟨g, hg⟩ : ∃ x, b + 1 = x := ⟨_, rfl⟩
  rw [hw1] at hb1 hB1 hg1 ⊢
  simp only [hb] at hb1 hB1 hg1 ⊢
  simp only [hg] at hb1 hg1 ⊢
  obtain ⟨lo, hlo⟩ : ∃ x, g + 1 = x := ⟨_, rfl⟩
  simp only [hlo] at hb1
  have HLO : Hid (lo = g + 1) := Lib.hid hlo.symm
  have HGB : b < g := by omega
  have HBW : w.heap.size ≤ b := by omega
  have HCL : Hid (∀ j (h : j < ps.length), ((ps.map Aid.S).map Value.string).toArray[j]? = some (.string (Aid.S ps[j]))) := Lib.hid (fun j h => by simp [h])
  obtain ⟨cs, hcs⟩ : ∃ cs, ((ps.map Aid.S).map Value.string).toArray = cs := ⟨_, rfl⟩
  rw [hcs] at hg1 HCL
  clear hw1 hb hg hb0 hcs hlo
  go_wp2
  go_loopw [12] (fun i wr => ∃ j : Nat, j ≤ ps.length ∧ i = .int .i64 j ∧ bj wr b lo (Aid.S (qp_Encode.done ps j)) ∧ (qp_Encode.done ps j).length ≤ j * 7000000 ∧ Mem.Blk wr g 9 cs ∧ Below b w wr) (fun i _ => ps.length - (intOf i).toNat)
  case atStart => exact ⟨0, by omega, rfl, hb1, by simp [qp_Encode.done, QpP.joinE], hg1, hB1⟩
  case round =>
    clear hb1 hg1 hB1
    obtain ⟨j, hj, rfl, hb1, hl1, hg1, hB1⟩ := hrel
    by_cases hlt : j < ps.length
    · have hc := (hg1.cell j).trans (HCL.out j hlt)
      have hd := qp_Encode.done_succ ps j hlt
      have hpj : ps[j].length ≤ 1000000 := Nat.le_trans (hpl _ (List.getElem_mem hlt)) hsz
      obtain ⟨p, hp⟩ : ∃ p, ps[j] = p := ⟨_, rfl⟩
      rw [hp] at hc hd hpj
      have HD := Lib.hid hd
      obtain ⟨s, hs⟩ : ∃ s, Aid.S p = s := ⟨_, rfl⟩
      have HLS : Hid (Aid.L s = p) := Lib.hid (by rw [← hs, Aid.L_S])
      have hzp : s.size = p.length := by rw [Aid.sz, HLS.out]
      rw [hs] at hc
      clear hp hd hs
      have hB1s := hB1.size
      by_cases hj0 : j = 0
      · have hjn : ¬ (0 < (j : Int)) := by omega
        have hjd : decide (0 < (j : Int)) = false := decide_eq_false hjn
        obtain ⟨pre, hpre⟩ : ∃ pre : List UInt8, pre = [] := ⟨_, rfl⟩
        have HD0 : Hid (qp_Encode.done ps (j + 1) = pre ++ QpP.lineGo p 0) := Lib.hid (by have := HD.out; rw [if_pos hj0] at this; rw [hpre]; exact this)
        have hbq : bj wr b lo (Aid.S pre) := by
          have e : qp_Encode.done ps j = [] := by rw [hj0]; rfl
          rw [e] at hb1
          rw [hpre]
          exact hb1
        have hlp : pre.length ≤ j * 7000000 + 2 := by rw [hpre]; simp
        have hgq := hg1
        have hBq := hB1
        have hjN : ¬ (0 < j) := by omega
        clear HD hb1 hl1 hg1 hB1 hpre hj0
        go_wp2
        go_loopw [6, 22] (fun a i wr => ∃ (k n : Nat) (out : List UInt8), k ≤ p.length ∧ n ≤ 75 ∧ out.length ≤ 6 * k ∧ a = .int .i64 n ∧ i = .int .i64 k ∧ Hid (out ++ QpP.lineGo (p.drop k) n = QpP.lineGo p 0) ∧ bj wr b lo (Aid.S (pre ++ out)) ∧ Mem.Blk wr g 9 cs ∧ Below b w wr) (fun _ i _ => p.length - (intOf i).toNat)
        case atStart => exact ⟨0, 0, [], by omega, by omega, by simp, rfl, rfl, Lib.hid (by simp), by rw [List.append_nil]; exact hbq, hgq, hBq⟩
        case round =>
          clear hbq hgq hBq
          obtain ⟨k, n, out, hk, hn, ho, rfl, rfl, HO, hbq, hgq, hBq⟩ := hrel
          by_cases hlk : k < p.length
          · obtain ⟨c, hc⟩ : ∃ c, p[k] = c := ⟨_, rfl⟩
            have hx : ∀ h : k < s.size, ((s[k]'h).toNat : Int) = (c.toNat : Int) := fun h => (bt_at s k h).trans (by rw [Aid.btd s k, HLS.out, List.getD_eq_getElem?_getD, List.getElem?_eq_getElem hlk, hc]; rfl)
            have hstep := qp_Encode.step out p k n c hlk hc _ rfl _ HO.out
            clear hc HO
            by_cases hlast : k + 1 = p.length
            · have hl3 : ((k : Int) == (p.length : Int) - 1) = true := beq_iff_eq.mpr (by omega)
              have hl2 : decide ((k : Int) = (p.length : Int) - 1) = true := decide_eq_true (by omega)
              have hdl : decide (k + 1 = p.length) = true := decide_eq_true hlast
              rw [hdl] at hstep
              have HW := Aside0.mk (qp_Encode.wr_ c true)
              have hwl := QpP.wr_len c true
              have HS := Lib.hid hstep
              have hzw : (Aid.S (QpP.wr c true)).size = (QpP.wr c true).length := by rw [Aid.sz, Aid.L_S]
              obtain ⟨wl, hwl2⟩ : ∃ x, QpP.wr c true = x := ⟨_, rfl⟩
              rw [hwl2] at HW hwl HS hzw
              obtain ⟨ws, hws⟩ : ∃ x, Aid.S wl = x := ⟨_, rfl⟩
              have HWS : Hid (ws = Aid.S wl) := Lib.hid hws.symm
              rw [hws] at HW hzw
              obtain ⟨mm, hmm⟩ : ∃ x, wl.length = x := ⟨_, rfl⟩
              rw [hmm] at hwl HS hzw
              have HMM := Lib.hid hmm
              clear hstep hdl hwl2 hws hlast hmm
              go_wp2_with fail
              ((with_reducible refine (qp_written.calls _ true ws _ HW.out).mono ?_))
              rintro e w3 ⟨rfl, hb3⟩
              have hbq3 := bj_below hbq hb3
              have hgq3 := hgq.below hb3
              have hBq3 := hBq.trans (hb3.mono (Nat.le_of_lt (bj_lt hbq)))
              have hlo3 : lo ≤ w3.heap.size := by have := hgq3.lt; have := HLO.out; omega
              have hgk : ¬ (g = b ∨ lo ≤ g) := by have := HLO.out; omega
              have hFb : ∀ k, (k = b ∨ lo ≤ k) → b ≤ k := fun k hk => by have := HLO.out; omega
              have hsz3 : (Aid.S (pre ++ out)).size = pre.length + out.length := by rw [Aid.sz, Aid.L_S, List.length_append]
              clear hbq hgq hBq hb3
              by_cases h75 : 75 < n + mm
              · have hn3 : 75 < (n : Int) + mm := by omega
                go_wp2_with fail
                refine (bj_write hbq3 hlo3 ⟨#[61, 13, 10]⟩ (by rw [hsz3]; show _ + 3 ≤ _; omega)).mono ?_
                rintro e w4 ⟨rfl, hb4, ho4⟩
                have hg4 := ho4.blk hgq3 hgk
                have hB4 := ho4.below_mine hFb (Nat.le_of_lt (bj_lt hbq3)) hBq3
                have hlo4 := Nat.le_trans hlo3 ho4.size
                have hb4' : bj w4 b lo (Aid.S (pre ++ out ++ [61, 13, 10])) := by rw [← Aid.S_app]; exact hb4
                have hsz4 : (Aid.S (pre ++ out ++ [61, 13, 10])).size = pre.length + out.length + 3 := by rw [Aid.sz, Aid.L_S, List.length_append, List.length_append]; rfl
                clear hb4 ho4 hbq3 hgq3 hBq3
                go_wp2_with fail
                refine (bj_write hb4' hlo4 ws (by rw [hsz4, hzw]; omega)).mono ?_
                rintro e w5 ⟨rfl, hb5, ho5⟩
                have hg5 := ho5.blk hg4 hgk
                have hB5 := ho5.below_mine hFb (Nat.le_of_lt (bj_lt hb4')) hB4
                clear ho5 hb4' hg4 hB4
                go_wp2
                go_roundw
                case rel => exact ⟨k + 1, mm, out ++ [61, 13, 10] ++ wl, by omega, by omega, by have := HMM.out; simp; omega, by first | rfl | simp, by go_num, Lib.hid (by have := HS.out; rw [if_pos h75] at this; exact this), by rw [HWS.out, Aid.S_app] at hb5; simpa [List.append_assoc] using hb5, hg5, hB5⟩
                case measure => simp [intOf]; omega
              · have hn3 : (n : Int) + mm ≤ 75 := by omega
                go_wp2_with fail
                refine (bj_write hbq3 hlo3 ws (by rw [hsz3, hzw]; omega)).mono ?_
                rintro e w5 ⟨rfl, hb5, ho5⟩
                have hg5 := ho5.blk hgq3 hgk
                have hB5 := ho5.below_mine hFb (Nat.le_of_lt (bj_lt hbq3)) hBq3
                clear ho5 hbq3 hgq3 hBq3
                go_wp2
                go_roundw
                case rel => exact ⟨k + 1, n + mm, out ++ wl, by omega, by omega, by have := HMM.out; simp; omega, by first | rfl | simp, by go_num, Lib.hid (by have := HS.out; rw [if_neg h75] at this; exact this), by rw [HWS.out, Aid.S_app] at hb5; simpa [List.append_assoc] using hb5, hg5, hB5⟩
                case measure => simp [intOf]; omega
            · have hl3 : ((k : Int) == (p.length : Int) - 1) = false := beq_eq_false_iff_ne.mpr (by omega)
              have hl2 : decide ((k : Int) = (p.length : Int) - 1) = false := decide_eq_false (by omega)
              have hdl : decide (k + 1 = p.length) = false := decide_eq_false hlast
              rw [hdl] at hstep
              have HW := Aside0.mk (qp_Encode.wr_ c false)
              have hwl := QpP.wr_len c false
              have HS := Lib.hid hstep
              have hzw : (Aid.S (QpP.wr c false)).size = (QpP.wr c false).length := by rw [Aid.sz, Aid.L_S]
              obtain ⟨wl, hwl2⟩ : ∃ x, QpP.wr c false = x := ⟨_, rfl⟩
              rw [hwl2] at HW hwl HS hzw
              obtain ⟨ws, hws⟩ : ∃ x, Aid.S wl = x := ⟨_, rfl⟩
              have HWS : Hid (ws = Aid.S wl) := Lib.hid hws.symm
              rw [hws] at HW hzw
              obtain ⟨mm, hmm⟩ : ∃ x, wl.length = x := ⟨_, rfl⟩
              rw [hmm] at hwl HS hzw
              have HMM := Lib.hid hmm
              clear hstep hdl hwl2 hws hlast hmm
              go_wp2_with fail
              ((with_reducible refine (qp_written.calls _ false ws _ HW.out).mono ?_))
              rintro e w3 ⟨rfl, hb3⟩
              have hbq3 := bj_below hbq hb3
              have hgq3 := hgq.below hb3
              have hBq3 := hBq.trans (hb3.mono (Nat.le_of_lt (bj_lt hbq)))
              have hlo3 : lo ≤ w3.heap.size := by have := hgq3.lt; have := HLO.out; omega
              have hgk : ¬ (g = b ∨ lo ≤ g) := by have := HLO.out; omega
              have hFb : ∀ k, (k = b ∨ lo ≤ k) → b ≤ k := fun k hk => by have := HLO.out; omega
              have hsz3 : (Aid.S (pre ++ out)).size = pre.length + out.length := by rw [Aid.sz, Aid.L_S, List.length_append]
              clear hbq hgq hBq hb3
              by_cases h75 : 75 < n + mm
              · have hn3 : 75 < (n : Int) + mm := by omega
                go_wp2_with fail
                refine (bj_write hbq3 hlo3 ⟨#[61, 13, 10]⟩ (by rw [hsz3]; show _ + 3 ≤ _; omega)).mono ?_
                rintro e w4 ⟨rfl, hb4, ho4⟩
                have hg4 := ho4.blk hgq3 hgk
                have hB4 := ho4.below_mine hFb (Nat.le_of_lt (bj_lt hbq3)) hBq3
                have hlo4 := Nat.le_trans hlo3 ho4.size
                have hb4' : bj w4 b lo (Aid.S (pre ++ out ++ [61, 13, 10])) := by rw [← Aid.S_app]; exact hb4
                have hsz4 : (Aid.S (pre ++ out ++ [61, 13, 10])).size = pre.length + out.length + 3 := by rw [Aid.sz, Aid.L_S, List.length_append, List.length_append]; rfl
                clear hb4 ho4 hbq3 hgq3 hBq3
                go_wp2_with fail
                refine (bj_write hb4' hlo4 ws (by rw [hsz4, hzw]; omega)).mono ?_
                rintro e w5 ⟨rfl, hb5, ho5⟩
                have hg5 := ho5.blk hg4 hgk
                have hB5 := ho5.below_mine hFb (Nat.le_of_lt (bj_lt hb4')) hB4
                clear ho5 hb4' hg4 hB4
                go_wp2
                go_roundw
                case rel => exact ⟨k + 1, mm, out ++ [61, 13, 10] ++ wl, by omega, by omega, by have := HMM.out; simp; omega, by first | rfl | simp, by go_num, Lib.hid (by have := HS.out; rw [if_pos h75] at this; exact this), by rw [HWS.out, Aid.S_app] at hb5; simpa [List.append_assoc] using hb5, hg5, hB5⟩
                case measure => simp [intOf]; omega
              · have hn3 : (n : Int) + mm ≤ 75 := by omega
                go_wp2_with fail
                refine (bj_write hbq3 hlo3 ws (by rw [hsz3, hzw]; omega)).mono ?_
                rintro e w5 ⟨rfl, hb5, ho5⟩
                have hg5 := ho5.blk hgq3 hgk
                have hB5 := ho5.below_mine hFb (Nat.le_of_lt (bj_lt hbq3)) hBq3
                clear ho5 hbq3 hgq3 hBq3
                go_wp2
                go_roundw
                case rel => exact ⟨k + 1, n + mm, out ++ wl, by omega, by omega, by have := HMM.out; simp; omega, by first | rfl | simp, by go_num, Lib.hid (by have := HS.out; rw [if_neg h75] at this; exact this), by rw [HWS.out, Aid.S_app] at hb5; simpa [List.append_assoc] using hb5, hg5, hB5⟩
                case measure => simp [intOf]; omega
          · have hke : k = p.length := by omega
            have hfin : qp_Encode.done ps (j + 1) = pre ++ out := by
              rw [HD0.out, ← HO.out, hke, List.drop_eq_nil_of_le (Nat.le_refl _)]
              simp [QpP.lineGo]
            have HF := Lib.hid hfin
            clear hfin
            go_wp2
            go_roundw
            case rel => exact ⟨j + 1, by omega, by go_num, by rw [HF.out]; exact hbq, by rw [HF.out, List.length_append]; omega, hgq, hBq⟩
            case measure => simp [intOf]; omega
      · have HD0 : Hid (qp_Encode.done ps (j + 1) = (qp_Encode.done ps j ++ [13, 10]) ++ QpP.lineGo p 0) := Lib.hid (by have := HD.out; rw [if_neg hj0] at this; exact this)
        have hj1 : 0 < (j : Int) := by omega
        have hlo1 : lo ≤ wr.heap.size := by have := hg1.lt; have := HLO.out; omega
        clear HD
        go_wp2_with fail
        refine (bj_write hb1 hlo1 ⟨#[13, 10]⟩ (by rw [Aid.sz, Aid.L_S]; show _ + 2 ≤ _; omega)).mono ?_
        rintro e w2 ⟨rfl, hb2, ho2⟩
        have hgq := ho2.blk hg1 (by have := HLO.out; omega)
        have hBq := ho2.below_mine (fun k hk => by have := HLO.out; omega) (Nat.le_of_lt (bj_lt hb1)) hB1
        have hbq : bj w2 b lo (Aid.S (qp_Encode.done ps j ++ [13, 10])) := by rw [← Aid.S_app]; exact hb2
        obtain ⟨pre, hpre⟩ : ∃ pre : List UInt8, qp_Encode.done ps j ++ [13, 10] = pre := ⟨_, rfl⟩
        have hlp : pre.length ≤ j * 7000000 + 2 := by rw [← hpre, List.length_append]; show _ + 2 ≤ _; omega
        rw [hpre] at HD0 hbq
        clear hb1 hl1 hg1 hB1 ho2 hb2 hpre hlo1 hB1s
        go_wp2
        go_loopw [6, 22] (fun a i wr => ∃ (k n : Nat) (out : List UInt8), k ≤ p.length ∧ n ≤ 75 ∧ out.length ≤ 6 * k ∧ a = .int .i64 n ∧ i = .int .i64 k ∧ Hid (out ++ QpP.lineGo (p.drop k) n = QpP.lineGo p 0) ∧ bj wr b lo (Aid.S (pre ++ out)) ∧ Mem.Blk wr g 9 cs ∧ Below b w wr) (fun _ i _ => p.length - (intOf i).toNat)
        case atStart => exact ⟨0, 0, [], by omega, by omega, by simp, rfl, rfl, Lib.hid (by simp), by rw [List.append_nil]; exact hbq, hgq, hBq⟩
        case round =>
          clear hbq hgq hBq
          obtain ⟨k, n, out, hk, hn, ho, rfl, rfl, HO, hbq, hgq, hBq⟩ := hrel
          by_cases hlk : k < p.length
          · obtain ⟨c, hc⟩ : ∃ c, p[k] = c := ⟨_, rfl⟩
            have hx : ∀ h : k < s.size, ((s[k]'h).toNat : Int) = (c.toNat : Int) := fun h => (bt_at s k h).trans (by rw [Aid.btd s k, HLS.out, List.getD_eq_getElem?_getD, List.getElem?_eq_getElem hlk, hc]; rfl)
            have hstep := qp_Encode.step out p k n c hlk hc _ rfl _ HO.out
            clear hc HO
            by_cases hlast : k + 1 = p.length
            · have hl3 : ((k : Int) == (p.length : Int) - 1) = true := beq_iff_eq.mpr (by omega)
              have hl2 : decide ((k : Int) = (p.length : Int) - 1) = true := decide_eq_true (by omega)
              have hdl : decide (k + 1 = p.length) = true := decide_eq_true hlast
              rw [hdl] at hstep
              have HW := Aside0.mk (qp_Encode.wr_ c true)
              have hwl := QpP.wr_len c true
              have HS := Lib.hid hstep
              have hzw : (Aid.S (QpP.wr c true)).size = (QpP.wr c true).length := by rw [Aid.sz, Aid.L_S]
              obtain ⟨wl, hwl2⟩ : ∃ x, QpP.wr c true = x := ⟨_, rfl⟩
              rw [hwl2] at HW hwl HS hzw
              obtain ⟨ws, hws⟩ : ∃ x, Aid.S wl = x := ⟨_, rfl⟩
              have HWS : Hid (ws = Aid.S wl) := Lib.hid hws.symm
              rw [hws] at HW hzw
              obtain ⟨mm, hmm⟩ : ∃ x, wl.length = x := ⟨_, rfl⟩
              rw [hmm] at hwl HS hzw
              have HMM := Lib.hid hmm
              clear hstep hdl hwl2 hws hlast hmm
              go_wp2_with fail
              ((with_reducible refine (qp_written.calls _ true ws _ HW.out).mono ?_))
              rintro e w3 ⟨rfl, hb3⟩
              have hbq3 := bj_below hbq hb3
              have hgq3 := hgq.below hb3
              have hBq3 := hBq.trans (hb3.mono (Nat.le_of_lt (bj_lt hbq)))
              have hlo3 : lo ≤ w3.heap.size := by have := hgq3.lt; have := HLO.out; omega
              have hgk : ¬ (g = b ∨ lo ≤ g) := by have := HLO.out; omega
              have hFb : ∀ k, (k = b ∨ lo ≤ k) → b ≤ k := fun k hk => by have := HLO.out; omega
              have hsz3 : (Aid.S (pre ++ out)).size = pre.length + out.length := by rw [Aid.sz, Aid.L_S, List.length_append]
              clear hbq hgq hBq hb3
              by_cases h75 : 75 < n + mm
              · have hn3 : 75 < (n : Int) + mm := by omega
                go_wp2_with fail
                refine (bj_write hbq3 hlo3 ⟨#[61, 13, 10]⟩ (by rw [hsz3]; show _ + 3 ≤ _; omega)).mono ?_
                rintro e w4 ⟨rfl, hb4, ho4⟩
                have hg4 := ho4.blk hgq3 hgk
                have hB4 := ho4.below_mine hFb (Nat.le_of_lt (bj_lt hbq3)) hBq3
                have hlo4 := Nat.le_trans hlo3 ho4.size
                have hb4' : bj w4 b lo (Aid.S (pre ++ out ++ [61, 13, 10])) := by rw [← Aid.S_app]; exact hb4
                have hsz4 : (Aid.S (pre ++ out ++ [61, 13, 10])).size = pre.length + out.length + 3 := by rw [Aid.sz, Aid.L_S, List.length_append, List.length_append]; rfl
                clear hb4 ho4 hbq3 hgq3 hBq3
                go_wp2_with fail
                refine (bj_write hb4' hlo4 ws (by rw [hsz4, hzw]; omega)).mono ?_
                rintro e w5 ⟨rfl, hb5, ho5⟩
                have hg5 := ho5.blk hg4 hgk
                have hB5 := ho5.below_mine hFb (Nat.le_of_lt (bj_lt hb4')) hB4
                clear ho5 hb4' hg4 hB4
                go_wp2
                go_roundw
                case rel => exact ⟨k + 1, mm, out ++ [61, 13, 10] ++ wl, by omega, by omega, by have := HMM.out; simp; omega, by first | rfl | simp, by go_num, Lib.hid (by have := HS.out; rw [if_pos h75] at this; exact this), by rw [HWS.out, Aid.S_app] at hb5; simpa [List.append_assoc] using hb5, hg5, hB5⟩
                case measure => simp [intOf]; omega
              · have hn3 : (n : Int) + mm ≤ 75 := by omega
                go_wp2_with fail
                refine (bj_write hbq3 hlo3 ws (by rw [hsz3, hzw]; omega)).mono ?_
                rintro e w5 ⟨rfl, hb5, ho5⟩
                have hg5 := ho5.blk hgq3 hgk
                have hB5 := ho5.below_mine hFb (Nat.le_of_lt (bj_lt hbq3)) hBq3
                clear ho5 hbq3 hgq3 hBq3
                go_wp2
                go_roundw
                case rel => exact ⟨k + 1, n + mm, out ++ wl, by omega, by omega, by have := HMM.out; simp; omega, by first | rfl | simp, by go_num, Lib.hid (by have := HS.out; rw [if_neg h75] at this; exact this), by rw [HWS.out, Aid.S_app] at hb5; simpa [List.append_assoc] using hb5, hg5, hB5⟩
                case measure => simp [intOf]; omega
            · have hl3 : ((k : Int) == (p.length : Int) - 1) = false := beq_eq_false_iff_ne.mpr (by omega)
              have hl2 : decide ((k : Int) = (p.length : Int) - 1) = false := decide_eq_false (by omega)
              have hdl : decide (k + 1 = p.length) = false := decide_eq_false hlast
              rw [hdl] at hstep
              have HW := Aside0.mk (qp_Encode.wr_ c false)
              have hwl := QpP.wr_len c false
              have HS := Lib.hid hstep
              have hzw : (Aid.S (QpP.wr c false)).size = (QpP.wr c false).length := by rw [Aid.sz, Aid.L_S]
              obtain ⟨wl, hwl2⟩ : ∃ x, QpP.wr c false = x := ⟨_, rfl⟩
              rw [hwl2] at HW hwl HS hzw
              obtain ⟨ws, hws⟩ : ∃ x, Aid.S wl = x := ⟨_, rfl⟩
              have HWS : Hid (ws = Aid.S wl) := Lib.hid hws.symm
              rw [hws] at HW hzw
              obtain ⟨mm, hmm⟩ : ∃ x, wl.length = x := ⟨_, rfl⟩
              rw [hmm] at hwl HS hzw
              have HMM := Lib.hid hmm
              clear hstep hdl hwl2 hws hlast hmm
              go_wp2_with fail
              ((with_reducible refine (qp_written.calls _ false ws _ HW.out).mono ?_))
              rintro e w3 ⟨rfl, hb3⟩
              have hbq3 := bj_below hbq hb3
              have hgq3 := hgq.below hb3
              have hBq3 := hBq.trans (hb3.mono (Nat.le_of_lt (bj_lt hbq)))
              have hlo3 : lo ≤ w3.heap.size := by have := hgq3.lt; have := HLO.out; omega
              have hgk : ¬ (g = b ∨ lo ≤ g) := by have := HLO.out; omega
              have hFb : ∀ k, (k = b ∨ lo ≤ k) → b ≤ k := fun k hk => by have := HLO.out; omega
              have hsz3 : (Aid.S (pre ++ out)).size = pre.length + out.length := by rw [Aid.sz, Aid.L_S, List.length_append]
              clear hbq hgq hBq hb3
              by_cases h75 : 75 < n + mm
              · have hn3 : 75 < (n : Int) + mm := by omega
                go_wp2_with fail
                refine (bj_write hbq3 hlo3 ⟨#[61, 13, 10]⟩ (by rw [hsz3]; show _ + 3 ≤ _; omega)).mono ?_
                rintro e w4 ⟨rfl, hb4, ho4⟩
                have hg4 := ho4.blk hgq3 hgk
                have hB4 := ho4.below_mine hFb (Nat.le_of_lt (bj_lt hbq3)) hBq3
                have hlo4 := Nat.le_trans hlo3 ho4.size
                have hb4' : bj w4 b lo (Aid.S (pre ++ out ++ [61, 13, 10])) := by rw [← Aid.S_app]; exact hb4
                have hsz4 : (Aid.S (pre ++ out ++ [61, 13, 10])).size = pre.length + out.length + 3 := by rw [Aid.sz, Aid.L_S, List.length_append, List.length_append]; rfl
                clear hb4 ho4 hbq3 hgq3 hBq3
                go_wp2_with fail
                refine (bj_write hb4' hlo4 ws (by rw [hsz4, hzw]; omega)).mono ?_
                rintro e w5 ⟨rfl, hb5, ho5⟩
                have hg5 := ho5.blk hg4 hgk
                have hB5 := ho5.below_mine hFb (Nat.le_of_lt (bj_lt hb4')) hB4
                clear ho5 hb4' hg4 hB4
                go_wp2
                go_roundw
                case rel => exact ⟨k + 1, mm, out ++ [61, 13, 10] ++ wl, by omega, by omega, by have := HMM.out; simp; omega, by first | rfl | simp, by go_num, Lib.hid (by have := HS.out; rw [if_pos h75] at this; exact this), by rw [HWS.out, Aid.S_app] at hb5; simpa [List.append_assoc] using hb5, hg5, hB5⟩
                case measure => simp [intOf]; omega
              · have hn3 : (n : Int) + mm ≤ 75 := by omega
                go_wp2_with fail
                refine (bj_write hbq3 hlo3 ws (by rw [hsz3, hzw]; omega)).mono ?_
                rintro e w5 ⟨rfl, hb5, ho5⟩
                have hg5 := ho5.blk hgq3 hgk
                have hB5 := ho5.below_mine hFb (Nat.le_of_lt (bj_lt hbq3)) hBq3
                clear ho5 hbq3 hgq3 hBq3
                go_wp2
                go_roundw
                case rel => exact ⟨k + 1, n + mm, out ++ wl, by omega, by omega, by have := HMM.out; simp; omega, by first | rfl | simp, by go_num, Lib.hid (by have := HS.out; rw [if_neg h75] at this; exact this), by rw [HWS.out, Aid.S_app] at hb5; simpa [List.append_assoc] using hb5, hg5, hB5⟩
                case measure => simp [intOf]; omega
          · have hke : k = p.length := by omega
            have hfin : qp_Encode.done ps (j + 1) = pre ++ out := by
              rw [HD0.out, ← HO.out, hke, List.drop_eq_nil_of_le (Nat.le_refl _)]
              simp [QpP.lineGo]
            have HF := Lib.hid hfin
            clear hfin
            go_wp2
            go_roundw
            case rel => exact ⟨j + 1, by omega, by go_num, by rw [HF.out]; exact hbq, by rw [HF.out, List.length_append]; omega, hgq, hBq⟩
            case measure => simp [intOf]; omega
    · have hje : j = ps.length := by omega
      clear hl1 hg1
      go_wp2_with fail
      refine (bj_string hb1).mono ?_
      rintro e w2 ⟨rfl, ho2⟩
      go_wp2
      go_ret
      exact ⟨qp_Encode.ret_str (by rw [HE.out, ← hje]), (ho2.below_mine (fun k hk => by have := HLO.out; omega) (Nat.le_of_lt (bj_lt hb1)) hB1).mono HBW⟩

end Go.Proofs.YtaflpmpffppfaaaDoor.X
