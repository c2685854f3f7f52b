/-
  When bytes, addresses are the same.
-/
import Derived.Test.YtcdhgpodoigddaaF2
namespace Go.Proofs.Ytcdhgpodoigddaa
open Go.RowKit Go.Proofs.YtcdhgpodoigddaaW.PrintWords Go.Proofs.YtcdhgpodoigddaaW.PrintLast Go.Proofs.YtcdhgpodoigddaaW.PrintMore
set_option linter.unusedVariables false
attribute [local go_sem] max2_max min2_min max_two min_two

theorem at_B {w : World} {A : Option Addr} {n : Nat} {xs : List Int} (h : kB.C w A n xs) (k : Nat) (hk : k < n) : ∃ ad, A = some ad ∧ w.cell? (ad.add k) = some (.int .u8 (xs.getD k 0)) := by
  have hr := Kd.reads_of_C (enc := Value.int .u8) (d := 0) h
  obtain ⟨ad, e, hc⟩ := hr.2.2 (by omega)
  exact ⟨ad, e, hc k hk⟩
theorem take_eq_step {xs ys : List Int} {k : Nat} (hx : k < xs.length) (hy : k < ys.length) (h : xs.take k = ys.take k) (he : xs.getD k 0 = ys.getD k 0) : xs.take (k + 1) = ys.take (k + 1) := by
  rw [List.take_succ_eq_append_getElem hx, List.take_succ_eq_append_getElem hy, h]
  rw [List.getD_eq_getElem?_getD, List.getD_eq_getElem?_getD, List.getElem?_eq_getElem hx, List.getElem?_eq_getElem hy] at he
  simp at he
  rw [he]
set_option maxHeartbeats 1000000 in
theorem equal_B (A B : Option Addr) (n m c d : Nat) (xs ys : List Int) (w : World) (hx : kB.C w A n xs) (hy : kB.C w B m ys) :
    Calls Try.prog 139 #[.slice A n c, .slice B m d] w fun e w' => e = .returned (.bool (decide (xs = ys))) ∧ ∃ q, w.drewN q = w' := by
  have hn : xs.length = n := hx.1
  have hm : ys.length = m := hy.1
  have hbig : n ≤ 9223372036854775807 := hx.2.1
  have hbig2 : m ≤ 9223372036854775807 := hy.2.1
  by_cases hl : n = m
  · subst hl
    have HX := Lib.hid hx
    have HY := Lib.hid hy
    have HN := Lib.hid hn
    have HM := Lib.hid hm
    clear hx hy hn hm
    go_enter Try.func139, Try.ntmps139
    go_wp2
    go_loopw [13] (fun i wr => ∃ k : Nat, k ≤ n ∧ i = .int .i64 k ∧ Hid (xs.take k = ys.take k) ∧ ∃ q, wr = w.drewN q) (fun i _ => n - (intOf i).toNat)
    case atStart => exact ⟨0, Nat.zero_le _, rfl, Lib.hid rfl, 0, rfl⟩
    case round =>
      obtain ⟨k, hk, rfl, ht, q, rfl⟩ := hrel
      by_cases hlt : k < n
      · obtain ⟨ad, rfl, hcx⟩ := at_B HX.out k hlt
        obtain ⟨bd, rfl, hcy⟩ := at_B HY.out k hlt
        by_cases he : xs.getD k 0 = ys.getD k 0
        · have HT : Hid (xs.take (k + 1) = ys.take (k + 1)) := Lib.hid (take_eq_step (by rw [HN.out]; exact hlt) (by rw [HM.out]; exact hlt) ht.out he)
          have hb : (xs.getD k 0 != ys.getD k 0) = false := bne_eq_false_iff_eq.mpr he
          have hk0 : (0 : Int) ≤ (k : Int) := by omega
          have hkn : (k : Int) < (n : Int) := by omega
          generalize xs.getD k 0 = a at *
          generalize ys.getD k 0 = b at *
          clear he
          go_wp2
          go_quiet (fail)
          go_wp2
          go_roundw
          case rel => exact ⟨k + 1, by omega, by go_num, HT, _, rfl⟩
          case measure => simp [intOf]; omega
        · have HR : Hid (decide (xs = ys) = false) := Lib.hid (decide_eq_false (fun h => he (by rw [h])))
          have hb : (xs.getD k 0 != ys.getD k 0) = true := by simpa using he
          have hk0 : (0 : Int) ≤ (k : Int) := by omega
          have hkn : (k : Int) < (n : Int) := by omega
          generalize xs.getD k 0 = a at *
          generalize ys.getD k 0 = b at *
          clear he
          go_wp2
          go_quiet (fail)
          go_wp2
          go_ret
          exact ⟨by rw [HR.out]; rfl, _, (World.drewN_drewN _ _ _).symm⟩
      · obtain rfl : k = n := by omega
        have HR : Hid (decide (xs = ys) = true) := Lib.hid (decide_eq_true (by
          have h := ht.out
          rw [List.take_of_length_le (by rw [HN.out]; exact Nat.le_refl _), List.take_of_length_le (by rw [HM.out]; exact Nat.le_refl _)] at h
          exact h))
        go_wp2
        go_ret
        exact ⟨by rw [HR.out]; rfl, q, rfl⟩
  · have HR : Hid (decide (xs = ys) = false) := Lib.hid (decide_eq_false (fun h => hl (by rw [← hn, ← hm, h])))
    have hb : ((n : Int) != (m : Int)) = true := by simp; omega
    clear hx hy hn hm
    go_enter Try.func139, Try.ntmps139
    go_wp2
    go_ret
    exact ⟨by rw [HR.out]; rfl, 0, rfl⟩

theorem below_drewN' {B : Nat} {w w1 : World} (h : Below B w w1) (q : Nat) : Below B w (w1.drewN q) := pw_below_drewN h q
end Go.Proofs.Ytcdhgpodoigddaa
