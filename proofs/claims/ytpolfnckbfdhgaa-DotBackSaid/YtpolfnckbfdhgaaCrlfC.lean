/- crlf: New, Feed, Whole, Held, Take: what each does to a reader in memory. -/
import Derived.Test.YtpolfnckbfdhgaaCrlfB
namespace Go.Proofs.Ytpolfnckbfdhgaa.Crlf
open Go.RowKit Go.Proofs.Ytpolfnckbfdhgaa.Mem
set_option linter.unusedVariables false
set_option linter.unusedSimpArgs false
def fds (m : M) (s : List UInt8) : M := s.foldl fd m
theorem fds_snoc (m : M) (s : List UInt8) (c : UInt8) : fds m (s ++ [c]) = fd (fds m s) c := by simp [fds]
theorem fds_app (m : M) (s t : List UInt8) : fds m (s ++ t) = fds (fds m s) t := by simp [fds]
def held (m : M) : Nat := m.2.1.length + if m.2.2 = true then 1 else 0
theorem fd_bound (m : M) (c : UInt8) : (fd m c).1.length ≤ m.1.length + 1 ∧ held (fd m c) ≤ held m + 1 := by
  unfold fd held
  split
  · simp
  · split <;> split <;> simp <;> split <;> omega
theorem fds_bound (m : M) (s : List UInt8) : (fds m s).1.length ≤ m.1.length + s.length ∧ held (fds m s) ≤ held m + s.length := by
  induction s generalizing m with
  | nil => simp [fds]
  | cons c s ih =>
    have h1 := fd_bound m c
    have h2 := ih (fd m c)
    have e : fds m (c :: s) = fds (fd m c) s := rfl
    rw [e]
    simp only [List.length_cons]
    omega
theorem held_ge (m : M) : m.2.1.length ≤ held m := by unfold held; omega
theorem take_snoc (s : ByteArray) (k : Nat) (h : k < s.size) : s.data.toList.take (k + 1) = s.data.toList.take k ++ [s[k]] := by
  rw [List.take_succ_eq_append_getElem (by simpa using h)]; rfl
theorem new_calls (w : World) : Calls Try.prog 17 #[] w fun e w' => e = .returned (.pointer (some ⟨w.heap.size, 0, none⟩)) ∧ w' = w.alloc (.cells #[.slice none 0 0, .slice none 0 0, .int .i64 0, .bool false, .bool false] 67) := by
  go_enter Try.func17, Try.ntmps17
  go_wp2
  go_ret
  exact ⟨rfl, rfl⟩
theorem rd_new (w : World) : Rd (w.alloc (.cells #[.slice none 0 0, .slice none 0 0, .int .i64 0, .bool false, .bool false] 67)) w.heap.size (fun k => k = w.heap.size) ([], [], false) :=
  ⟨_, _, [], ⟨Blk.new w _ _, rfl, fun k hk => by simp [hk], Sl.nil _ _ _, fun k hk => (by cases hk), Sl.nil _ _ _, fun k hk => (by cases hk), fun p hp => (by cases hp)⟩, rfl⟩
set_option maxHeartbeats 1000000 in
set_option maxRecDepth 100000 in
theorem Feed_calls (w : World) (b : Nat) (F : Nat → Prop) (m : M) (s : ByteArray) (h : Rd w b F m) (h1 : m.1.length + s.size ≤ 1000000) (h2 : held m + s.size ≤ 999990) :
    Calls Try.prog 18 #[.pointer (some ⟨b, 0, none⟩), .string s] w fun e w' => e = .returned (.tuple #[]) ∧ FeedPost w b F (fds m s.data.toList) w' := by
  have H1 : Hid (m.1.length + s.size ≤ 1000000) := h1
  have H2 : Hid (held m + s.size ≤ 999990) := h2
  have hsz : s.size ≤ 1000000 := by omega
  clear h1 h2
  go_enter Try.func18, Try.ntmps18
  go_wp2
  go_loopw [7] (fun i wr => ∃ k : Nat, k ≤ s.size ∧ i = .int .i64 k ∧ FeedPost w b F (fds m (s.data.toList.take k)) wr) (fun i _ => s.size - (intOf i).toNat)
  case atStart => exact ⟨0, Nat.zero_le _, rfl, by simpa [fds] using h.mono (fun k hk => .inl hk) (ext_lt h.lt (Nat.le_refl _)), Only.refl _ _⟩
  case round =>
    obtain ⟨k, hk, rfl, hr, ho⟩ := hrel
    by_cases hlt : k < s.size
    · have hb := fds_bound m (s.data.toList.take k)
      have hle : (s.data.toList.take k).length ≤ k := List.length_take_le _ _
      have hh := held_ge (fds m (s.data.toList.take k))
      have q1 : (fds m (s.data.toList.take k)).1.length ≤ 1000000 := by have := H1.out; omega
      have q2 : (fds m (s.data.toList.take k)).2.1.length ≤ 999990 := by have := H2.out; omega
      have HS : Hid (fds m (s.data.toList.take (k + 1)) = fd (fds m (s.data.toList.take k)) s[k]) := by
        show _ = _
        rw [take_snoc s k hlt, fds_snoc]
      clear hb hle hh
      go_wp2_with fail
      refine (feed_calls _ b _ _ s[k] hr q1 q2).mono ?_
      rintro e w2 ⟨rfl, hr2, ho2⟩
      go_wp2
      go_roundw
      case rel => exact ⟨k + 1, by omega, by go_num, by rw [HS.out]; exact hr2.mono (ext_join ho.size (Nat.le_refl _) ho2.size) (ext_lt h.lt (Nat.le_trans ho.size ho2.size)), ho.ext_ ho2⟩
      case measure => simp [intOf]; omega
    · have e : s.data.toList.take k = s.data.toList := List.take_of_length_le (by simp; omega)
      rw [e] at hr
      clear e
      go_wp2
      go_end0
      exact ⟨rfl, hr, ho⟩
end Go.Proofs.Ytpolfnckbfdhgaa.Crlf
