/-
  What a name may be, by the reference; when bytes, addresses, frames are the same.
-/
import Derived.Test.YtcdhgpodoigddaaF1
namespace Go.Proofs.Ytcdhgpodoigddaa
open Go.RowKit Go.Proofs.YtcdhgpodoigddaaW.PrintWords Go.Proofs.YtcdhgpodoigddaaW.PrintLast Go.Proofs.YtcdhgpodoigddaaW.PrintMore
set_option linter.unusedVariables false
attribute [local go_sem] max2_max min2_min max_two min_two

theorem letter_yes {c : Int} (h : letterB c = true) : (97 ≤ c ∧ c ≤ 122) ∨ (48 ≤ c ∧ c ≤ 57 ∧ c < 97) ∨ c = 45 ∨ c = 95 ∨ c = 46 := by
  simp [letterB] at h
  omega
theorem letter_no {c : Int} (h : letterB c = false) : (c < 48 ∧ c < 97 ∧ ¬ c = 45 ∧ ¬ c = 46 ∧ ¬ c = 95) ∨ (57 < c ∧ c < 97 ∧ ¬ c = 45 ∧ ¬ c = 95 ∧ ¬ c = 46) ∨ (122 < c ∧ 57 < c ∧ ¬ c = 45 ∧ ¬ c = 95 ∧ ¬ c = 46) := by
  simp [letterB] at h
  omega
set_option maxHeartbeats 1000000 in
theorem mayName_r (s : ByteArray) (w : World) (hs : s.size ≤ 9223372036854775807) : Calls Try.prog 126 #[.string s] w fun e w' => e = .returned (.bool (nameB s)) ∧ w = w' := by
  go_enter Try.func126, Try.ntmps126
  go_wp2
  go_loop [7] (fun i => ∃ k : Nat, k ≤ s.size ∧ i = .int .i64 k ∧ nameL (s.data.toList.take k) = true) (fun i => s.size - (intOf i).toNat)
  case atStart => exact ⟨0, Nat.zero_le _, rfl, rfl⟩
  case round =>
    obtain ⟨k, hk, rfl, ha⟩ := hrel
    have HA := Lib.hid ha
    clear ha
    by_cases hlt : k < s.size
    · rcases hb : letterB (s[k].toNat : Int) with _ | _
      · have HR : Hid (nameB s = false) := Lib.hid (by simp [nameB, nameL_stop hlt hb])
        have hc := letter_no hb
        clear hb
        rcases hc with ⟨q1, q2, q3, q4, q5⟩ | ⟨q1, q2, q3, q4, q5⟩ | ⟨q1, q2, q3, q4, q5⟩
        all_goals
          try have x1 : ((s[k].toNat : Int) == 45) = true := beq_iff_eq.mpr (by omega)
          try have x1 : ((s[k].toNat : Int) == 45) = false := beq_eq_false_iff_ne.mpr (by omega)
          try have x2 : ((s[k].toNat : Int) == 95) = true := beq_iff_eq.mpr (by omega)
          try have x2 : ((s[k].toNat : Int) == 95) = false := beq_eq_false_iff_ne.mpr (by omega)
          try have x3 : ((s[k].toNat : Int) == 46) = true := beq_iff_eq.mpr (by omega)
          try have x3 : ((s[k].toNat : Int) == 46) = false := beq_eq_false_iff_ne.mpr (by omega)
          try have d1 : decide ((s[k].toNat : Int) ≤ 57) = true := decide_eq_true (by omega)
          try have d1 : decide ((s[k].toNat : Int) ≤ 57) = false := decide_eq_false (by omega)
          try have d2 : decide ((s[k].toNat : Int) ≤ 122) = true := decide_eq_true (by omega)
          try have d2 : decide ((s[k].toNat : Int) ≤ 122) = false := decide_eq_false (by omega)
          try have y1 : decide (48 ≤ (s[k].toNat : Int)) = true := decide_eq_true (by omega)
          try have y1 : decide (48 ≤ (s[k].toNat : Int)) = false := decide_eq_false (by omega)
          try have y2 : decide (97 ≤ (s[k].toNat : Int)) = true := decide_eq_true (by omega)
          try have y2 : decide (97 ≤ (s[k].toNat : Int)) = false := decide_eq_false (by omega)
          clear q1 q2 q3 q4 q5
          go_wp2
          go_ret
          exact ⟨by rw [HR.out]; rfl, rfl⟩
      · have HR : Hid (nameL (s.data.toList.take (k + 1)) = true) := Lib.hid (by rw [nameL_take hlt HA.out, hb])
        have hc := letter_yes hb
        clear hb
        rcases hc with ⟨q1, q2⟩ | ⟨q1, q2, q3⟩ | q | q | q
        all_goals
          try have x1 : ((s[k].toNat : Int) == 45) = true := beq_iff_eq.mpr (by omega)
          try have x1 : ((s[k].toNat : Int) == 45) = false := beq_eq_false_iff_ne.mpr (by omega)
          try have x2 : ((s[k].toNat : Int) == 95) = true := beq_iff_eq.mpr (by omega)
          try have x2 : ((s[k].toNat : Int) == 95) = false := beq_eq_false_iff_ne.mpr (by omega)
          try have x3 : ((s[k].toNat : Int) == 46) = true := beq_iff_eq.mpr (by omega)
          try have x3 : ((s[k].toNat : Int) == 46) = false := beq_eq_false_iff_ne.mpr (by omega)
          try have d1 : decide ((s[k].toNat : Int) ≤ 57) = true := decide_eq_true (by omega)
          try have d1 : decide ((s[k].toNat : Int) ≤ 57) = false := decide_eq_false (by omega)
          try have d2 : decide ((s[k].toNat : Int) ≤ 122) = true := decide_eq_true (by omega)
          try have d2 : decide ((s[k].toNat : Int) ≤ 122) = false := decide_eq_false (by omega)
          try have y1 : decide (48 ≤ (s[k].toNat : Int)) = true := decide_eq_true (by omega)
          try have y1 : decide (48 ≤ (s[k].toNat : Int)) = false := decide_eq_false (by omega)
          try have y2 : decide (97 ≤ (s[k].toNat : Int)) = true := decide_eq_true (by omega)
          try have y2 : decide (97 ≤ (s[k].toNat : Int)) = false := decide_eq_false (by omega)
          try clear q
          try clear q1
          try clear q2
          try clear q3
          go_wp2
          go_round
          case rel => exact ⟨k + 1, by omega, by go_num, HR.out⟩
          case measure => simp [intOf]; omega
    · obtain rfl : k = s.size := by omega
      have HR : Hid (nameB s = (decide (1 ≤ (s.size : Int)) && decide ((s.size : Int) ≤ 64))) := Lib.hid (by
        have h := HA.out
        rw [List.take_of_length_le (by simp)] at h
        simp [nameB, h])
      by_cases h1 : 1 ≤ (s.size : Int)
      · have HR1 : Hid (nameB s = decide ((s.size : Int) ≤ 64)) := Lib.hid (by rw [HR.out, decide_eq_true h1, Bool.true_and])
        go_wp2
        go_ret
        exact ⟨by rw [HR1.out]; rfl, rfl⟩
      · have HR1 : Hid (nameB s = false) := Lib.hid (by rw [HR.out, decide_eq_false h1, Bool.false_and])
        go_wp2
        go_ret
        exact ⟨by rw [HR1.out]; rfl, rfl⟩
end Go.Proofs.Ytcdhgpodoigddaa
