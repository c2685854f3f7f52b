/-
  May an address be, by the program and by the reference.
-/
import Derived.Test.YtcdhgpodoigddaaF6
namespace Go.Proofs.Ytcdhgpodoigddaa
open Go.RowKit Go.Proofs.YtcdhgpodoigddaaW.PrintWords Go.Proofs.YtcdhgpodoigddaaW.PrintLast Go.Proofs.YtcdhgpodoigddaaW.PrintMore
set_option linter.unusedVariables false
set_option linter.unusedSimpArgs false
def addrB (x : S50) : Bool := inB x.f3 0 65535 && ((x.f0 == 1 && ((x.f1.length : Int) == 4 && x.f2.toList == [])) || ((x.f0 == 4 && ((x.f1.length : Int) == 16 && x.f2.toList == [])) || (x.f0 == 3 && (nameB x.f2 && (x.f1.length : Int) == 0))))
theorem addrB_port {x : S50} (h : inB x.f3 0 65535 = false) : addrB x = false := by simp [addrB, h]
theorem addrB_1 {x : S50} (h : inB x.f3 0 65535 = true) (hk : x.f0 = 1) : addrB x = ((x.f1.length : Int) == 4 && x.f2.toList == []) := by simp [addrB, h, hk]
theorem addrB_4 {x : S50} (h : inB x.f3 0 65535 = true) (hk : x.f0 = 4) : addrB x = ((x.f1.length : Int) == 16 && x.f2.toList == []) := by simp [addrB, h, hk]
theorem addrB_3 {x : S50} (h : inB x.f3 0 65535 = true) (hk : x.f0 = 3) : addrB x = (nameB x.f2 && (x.f1.length : Int) == 0) := by simp [addrB, h, hk]
theorem addrB_no {x : S50} (h1 : ¬ x.f0 = 1) (h3 : ¬ x.f0 = 3) (h4 : ¬ x.f0 = 4) : addrB x = false := by simp [addrB, h1, h3, h4]
set_option maxHeartbeats 1600000 in
theorem mayAddr_p (x : S50) (A : Option Addr) (n c : Nat) (w : World) (hx : kB.C w A n x.f1) (hs : x.f2.size ≤ 9223372036854775807) :
    Calls Try.prog 112 #[.agg #[.int .i64 x.f0, .slice A n c, .string x.f2, .int .i64 x.f3]] w fun e w' => e = .returned (.bool (addrB x)) ∧ Below w.heap.size w w' := by
  have hn : x.f1.length = n := hx.1
  have hA : ∀ o, Below w.heap.size w (w.alloc o) := fun o => (Below.refl _ w).alloc (Nat.le_refl _) o
  by_cases hp : 0 ≤ x.f3 ∧ x.f3 ≤ 65535
  · obtain ⟨p0, p1⟩ := hp
    have hi : inB x.f3 0 65535 = true := by simp [inB, p0, p1]
    have hk : x.f0 = 1 ∨ x.f0 = 4 ∨ x.f0 = 3 ∨ (¬ x.f0 = 1 ∧ ¬ x.f0 = 3 ∧ ¬ x.f0 = 4) := by omega
    rcases hk with hk | hk | hk | ⟨k1, k3, k4⟩
    · have HR : Hid (addrB x = ((n : Int) == 4 && x.f2.toList == [])) := Lib.hid (by rw [addrB_1 hi hk, hn])
      clear hi hn hx
      go_enter Try.func112, Try.ntmps112
      go_wp2
      all_goals
        go_ret
        exact ⟨by rw [HR.out]; simp [*], hA _⟩
    · have HR : Hid (addrB x = ((n : Int) == 16 && x.f2.toList == [])) := Lib.hid (by rw [addrB_4 hi hk, hn])
      clear hi hn hx
      go_enter Try.func112, Try.ntmps112
      go_wp2
      all_goals
        go_ret
        exact ⟨by rw [HR.out]; simp [*], hA _⟩
    · have HR : Hid (addrB x = (nameB x.f2 && (n : Int) == 0)) := Lib.hid (by rw [addrB_3 hi hk, hn])
      clear hi hn hx
      rcases hb : nameB x.f2 with _ | _
      all_goals
        have HB := Lib.hid hb
        rw [hb] at HR
        clear hb
        go_enter Try.func112, Try.ntmps112
        go_wp2_with (go_at_call 137; refine (mayName_p _ _ hs).mono ?_; rw [HB.out]; rintro e w' ⟨rfl, rfl⟩)
        go_ret
        exact ⟨by rw [HR.out]; simp, hA _⟩
    · have HR : Hid (addrB x = false) := Lib.hid (addrB_no k1 k3 k4)
      have e1 : (x.f0 == 1) = false := beq_eq_false_iff_ne.mpr k1
      have e3 : (x.f0 == 3) = false := beq_eq_false_iff_ne.mpr k3
      have e4 : (x.f0 == 4) = false := beq_eq_false_iff_ne.mpr k4
      clear hi hn hx k1 k3 k4
      go_enter Try.func112, Try.ntmps112
      go_wp2
      go_ret
      exact ⟨by rw [HR.out]; rfl, hA _⟩
  · have hi : inB x.f3 0 65535 = false := by simp [inB]; omega
    have HR : Hid (addrB x = false) := Lib.hid (addrB_port hi)
    clear hi hn hx
    have hp' : x.f3 < 0 ∨ (0 ≤ x.f3 ∧ 65535 < x.f3) := by omega
    clear hp
    rcases hp' with hp | ⟨hp, hp2⟩
    all_goals
      go_enter Try.func112, Try.ntmps112
      go_wp2_with fail
      go_ret
      exact ⟨by rw [HR.out]; rfl, hA _⟩
set_option maxHeartbeats 1600000 in
theorem mayAddr_r (x : S50) (A : Option Addr) (n c : Nat) (w : World) (hx : kB.C w A n x.f1) (hs : x.f2.size ≤ 9223372036854775807) :
    Calls Try.prog 119 #[.agg #[.int .i64 x.f0, .slice A n c, .string x.f2, .int .i64 x.f3]] w fun e w' => e = .returned (.bool (addrB x)) ∧ Below w.heap.size w w' := by
  have hn : x.f1.length = n := hx.1
  have hA : ∀ o, Below w.heap.size w (w.alloc o) := fun o => (Below.refl _ w).alloc (Nat.le_refl _) o
  by_cases hp : 0 ≤ x.f3 ∧ x.f3 ≤ 65535
  · obtain ⟨p0, p1⟩ := hp
    have hi : inB x.f3 0 65535 = true := by simp [inB, p0, p1]
    have hk : x.f0 = 1 ∨ x.f0 = 4 ∨ x.f0 = 3 ∨ (¬ x.f0 = 1 ∧ ¬ x.f0 = 3 ∧ ¬ x.f0 = 4) := by omega
    rcases hk with hk | hk | hk | ⟨k1, k3, k4⟩
    · have HR : Hid (addrB x = ((n : Int) == 4 && x.f2.toList == [])) := Lib.hid (by rw [addrB_1 hi hk, hn])
      clear hi hn hx
      go_enter Try.func119, Try.ntmps119
      go_wp2
      all_goals
        go_ret
        exact ⟨by rw [HR.out]; simp [*], hA _⟩
    · have HR : Hid (addrB x = ((n : Int) == 16 && x.f2.toList == [])) := Lib.hid (by rw [addrB_4 hi hk, hn])
      clear hi hn hx
      go_enter Try.func119, Try.ntmps119
      go_wp2
      all_goals
        go_ret
        exact ⟨by rw [HR.out]; simp [*], hA _⟩
    · have HR : Hid (addrB x = (nameB x.f2 && (n : Int) == 0)) := Lib.hid (by rw [addrB_3 hi hk, hn])
      clear hi hn hx
      rcases hb : nameB x.f2 with _ | _
      all_goals
        have HB := Lib.hid hb
        rw [hb] at HR
        clear hb
        go_enter Try.func119, Try.ntmps119
        go_wp2_with (go_at_call 126; refine (mayName_r _ _ hs).mono ?_; rw [HB.out]; rintro e w' ⟨rfl, rfl⟩)
        go_ret
        exact ⟨by rw [HR.out]; simp, hA _⟩
    · have HR : Hid (addrB x = false) := Lib.hid (addrB_no k1 k3 k4)
      have e1 : (x.f0 == 1) = false := beq_eq_false_iff_ne.mpr k1
      have e3 : (x.f0 == 3) = false := beq_eq_false_iff_ne.mpr k3
      have e4 : (x.f0 == 4) = false := beq_eq_false_iff_ne.mpr k4
      clear hi hn hx k1 k3 k4
      go_enter Try.func119, Try.ntmps119
      go_wp2
      go_ret
      exact ⟨by rw [HR.out]; rfl, hA _⟩
  · have hi : inB x.f3 0 65535 = false := by simp [inB]; omega
    have HR : Hid (addrB x = false) := Lib.hid (addrB_port hi)
    clear hi hn hx
    have hp' : x.f3 < 0 ∨ (0 ≤ x.f3 ∧ 65535 < x.f3) := by omega
    clear hp
    rcases hp' with hp | ⟨hp, hp2⟩
    all_goals
      go_enter Try.func119, Try.ntmps119
      go_wp2_with fail
      go_ret
      exact ⟨by rw [HR.out]; rfl, hA _⟩
end Go.Proofs.Ytcdhgpodoigddaa
