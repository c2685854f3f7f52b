/-
  Names, addresses, frames: when two are the same; what a name may be.
-/
import Derived.Test.YtcdhgpodoigddaaA
namespace Go.Proofs.Ytcdhgpodoigddaa
open Go.RowKit Go.Proofs.YtcdhgpodoigddaaW.PrintWords Go.Proofs.YtcdhgpodoigddaaW.PrintLast Go.Proofs.YtcdhgpodoigddaaW.PrintMore
set_option linter.unusedVariables false
attribute [local go_sem] max2_max min2_min max_two min_two

def letterB (c : Int) : Bool := (decide (97 ≤ c) && decide (c ≤ 122)) || (decide (48 ≤ c) && decide (c ≤ 57)) || (c == 45 || c == 95 || c == 46)
def inB (n lo hi : Int) : Bool := decide (lo ≤ n) && decide (n ≤ hi)
set_option maxHeartbeats 400000 in
theorem letter_any (c : Int) (w : World) : Calls Try.prog 151 #[.int .u8 c] w fun e w' => e = .returned (.bool (letterB c)) ∧ w = w' := by
  have hc : (97 ≤ c ∧ c ≤ 122) ∨ (¬ (97 ≤ c ∧ c ≤ 122) ∧ 48 ≤ c ∧ c ≤ 57) ∨ (¬ (97 ≤ c ∧ c ≤ 122) ∧ ¬ (48 ≤ c ∧ c ≤ 57)) := by omega
  rcases hc with ⟨h1, h2⟩ | ⟨h0, h1, h2⟩ | ⟨h1, h2⟩
  · have hr : letterB c = true := by simp [letterB, h1, h2]
    rw [hr]; clear hr
    go_enter Try.func151, Try.ntmps151
    go_wp2
    go_ret
    exact ⟨rfl, rfl⟩
  · have hr : letterB c = true := by simp [letterB, h1, h2]
    rw [hr]; clear hr
    have h3 : ¬ 97 ≤ c := by omega
    clear h0
    go_enter Try.func151, Try.ntmps151
    go_wp2
    go_ret
    exact ⟨rfl, rfl⟩
  · have hr : letterB c = (c == 45 || c == 95 || c == 46) := by
      unfold letterB
      have e1 : (decide (97 ≤ c) && decide (c ≤ 122)) = false := by simp; omega
      have e2 : (decide (48 ≤ c) && decide (c ≤ 57)) = false := by simp; omega
      rw [e1, e2]; rfl
    rw [hr]; clear hr
    have h3 : c < 48 ∨ (57 < c ∧ c < 97) ∨ 122 < c := by omega
    clear h1 h2
    rcases h3 with h3 | ⟨h3, h4⟩ | h3
    all_goals
      by_cases q1 : c = 45
      · subst q1
        first | omega | (go_enter Try.func151, Try.ntmps151; go_wp2; go_ret; exact ⟨rfl, rfl⟩)
      · have e1 : (c == 45) = false := by simpa using q1
        by_cases q2 : c = 95
        · subst q2
          first | omega | (go_enter Try.func151, Try.ntmps151; go_wp2; go_ret; exact ⟨rfl, rfl⟩)
        · have e2 : (c == 95) = false := by simpa using q2
          have E1 := Lib.hid e1
          have E2 := Lib.hid e2
          clear q1 q2
          go_enter Try.func151, Try.ntmps151
          go_wp2
          go_ret
          refine ⟨?_, rfl⟩
          first
            | rfl
            | (have z : ¬ c ≤ 57 := by omega
               simp [z, E1.out, E2.out]
               done)
            | (have z : ¬ c ≤ 57 := by omega
               have z2 : ¬ c ≤ 122 := by omega
               simp [z, z2, E1.out, E2.out])
theorem in_any (n lo hi : Int) (w : World) : Calls Try.prog 111 #[.int .i64 n, .int .i64 lo, .int .i64 hi] w fun e w' => e = .returned (.bool (inB n lo hi)) ∧ w = w' := by
  by_cases h1 : lo ≤ n
  · have hr : inB n lo hi = decide (n ≤ hi) := by simp [inB, h1]
    rw [hr]; clear hr
    go_enter Try.func111, Try.ntmps111
    go_wp2
    go_ret
    exact ⟨rfl, rfl⟩
  · have hr : inB n lo hi = false := by simp [inB, h1]
    rw [hr]; clear hr
    go_enter Try.func111, Try.ntmps111
    go_wp2
    go_ret
    exact ⟨rfl, rfl⟩

def nameL (l : List UInt8) : Bool := l.all (fun c => letterB c.toNat)
def nameB (s : ByteArray) : Bool := nameL s.data.toList && (decide (1 ≤ (s.size : Int)) && decide ((s.size : Int) ≤ 64))
theorem nameL_take {s : ByteArray} {k : Nat} (h : k < s.size) (ha : nameL (s.data.toList.take k) = true) : nameL (s.data.toList.take (k + 1)) = letterB (s[k].toNat : Int) := by
  unfold nameL at *
  rw [List.take_succ_eq_append_getElem (by simpa using h), List.all_append, ha]
  simp
  rfl
theorem nameL_stop {s : ByteArray} {k : Nat} (h : k < s.size) (hb : letterB (s[k].toNat : Int) = false) : nameL s.data.toList = false := by
  unfold nameL
  rw [List.all_eq_false]
  refine ⟨s[k], ?_, by simpa using hb⟩
  exact Array.mem_toList_iff.2 (Array.getElem_mem (xs := s.data) h)
set_option maxHeartbeats 400000 in
theorem mayName_p (s : ByteArray) (w : World) (hs : s.size ≤ 9223372036854775807) : Calls Try.prog 137 #[.string s] w fun e w' => e = .returned (.bool (nameB s)) ∧ w = w' := by
  go_enter Try.func137, Try.ntmps137
  go_wp2
  go_loop [6] (fun i => ∃ k : Nat, k ≤ s.size ∧ i = .int .i64 k ∧ nameL (s.data.toList.take k) = true) (fun i => s.size - (intOf i).toNat)
  case atStart => exact ⟨0, Nat.zero_le _, rfl, rfl⟩
  case round =>
    obtain ⟨k, hk, rfl, ha⟩ := hrel
    have HA := Lib.hid ha
    clear ha
    by_cases hlt : k < s.size
    · rcases hb : letterB (s[k].toNat : Int) with _ | _
      · have HB := Lib.hid hb
        have HR : Hid (nameB s = false) := Lib.hid (by simp [nameB, nameL_stop hlt hb])
        clear hb
        go_wp2_with (go_at_call 151; refine (letter_any _ _).mono ?_; rw [HB.out]; rintro e w' ⟨rfl, rfl⟩)
        go_ret
        exact ⟨by rw [HR.out]; rfl, rfl⟩
      · have HB := Lib.hid hb
        have HR : Hid (nameL (s.data.toList.take (k + 1)) = true) := Lib.hid (by rw [nameL_take hlt HA.out, hb])
        clear hb
        go_wp2_with (go_at_call 151; refine (letter_any _ _).mono ?_; rw [HB.out]; rintro e w' ⟨rfl, rfl⟩)
        go_round
        case rel => exact ⟨k + 1, by omega, by go_num, HR.out⟩
        case measure => simp [intOf]; omega
    · obtain rfl : k = s.size := by omega
      have HR : Hid (nameB s = (decide (1 ≤ (s.size : Int)) && decide ((s.size : Int) ≤ 64))) := Lib.hid (by
        have h := HA.out
        rw [List.take_of_length_le (by simp)] at h
        simp [nameB, h])
      by_cases h1 : 1 ≤ (s.size : Int)
      · have HR1 : Hid (nameB s = decide ((s.size : Int) ≤ 64)) := Lib.hid (by rw [HR.out, decide_eq_true h1, Bool.true_and])
        go_wp2
        go_ret
        exact ⟨by rw [HR1.out]; rfl, rfl⟩
      · have HR1 : Hid (nameB s = false) := Lib.hid (by rw [HR.out, decide_eq_false h1, Bool.false_and])
        go_wp2
        go_ret
        exact ⟨by rw [HR1.out]; rfl, rfl⟩
end Go.Proofs.Ytcdhgpodoigddaa
