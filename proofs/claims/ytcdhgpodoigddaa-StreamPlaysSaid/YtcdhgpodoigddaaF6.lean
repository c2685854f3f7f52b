/-
  SameFrames of two rows that read alike.
-/
import Derived.Test.YtcdhgpodoigddaaF5
namespace Go.Proofs.Ytcdhgpodoigddaa
open Go.RowKit Go.Proofs.YtcdhgpodoigddaaW.PrintWords Go.Proofs.YtcdhgpodoigddaaW.PrintLast Go.Proofs.YtcdhgpodoigddaaW.PrintMore
set_option linter.unusedVariables false
set_option linter.unusedSimpArgs false
theorem sameAddrR_self (x : S50) : sameAddrR x x = true := by simp [sameAddrR]
theorem sameAddrP_self (x : S50) : sameAddrP x x = true := by simp [sameAddrP]
theorem sameR_self (x : S52) : sameR x x = true := by simp [sameR, sameAddrR_self]
theorem sameP_self (x : S52) : sameP x x = true := by simp [sameP, sameAddrP_self]
set_option maxHeartbeats 1600000 in
set_option maxRecDepth 100000 in
theorem sameFrames_self (A B : Option Addr) (n c d : Nat) (fs : List S52) (w : World) (hx : Kd.C k52 w A n fs) (hy : Kd.C k52 w B n fs) :
    Calls Try.prog 35 #[.slice A n c, .slice B n d] w fun e w' => e = .returned (.bool true) ∧ Below w.heap.size w w' := by
  have hbig : n ≤ 9223372036854775807 := hx.2.1
  have HX := Lib.hid hx
  have HY := Lib.hid hy
  clear hx hy
  go_enter Try.func35, Try.ntmps35
  go_wp2
  go_loopw [13] (fun i wr => ∃ k : Nat, k ≤ n ∧ i = .int .i64 k ∧ Below w.heap.size w wr) (fun i _ => n - (intOf i).toNat)
  case atStart => exact ⟨0, Nat.zero_le _, rfl, Below.refl _ _⟩
  case round =>
    obtain ⟨k, hk, rfl, hb⟩ := hrel
    by_cases hlt : k < n
    · have HX1 := Lib.hid (Kd.C_below HX.out ⟨hb.os, hb.tape, hb.output, hb.size, hb.block⟩)
      have HY1 := Lib.hid (Kd.C_below HY.out ⟨hb.os, hb.tape, hb.output, hb.size, hb.block⟩)
      obtain ⟨ad, A5, c5, A8, c8, rfl, x0, x1, x2, x3, x4, x5, x6, x7, x8, l5, i5, l8, i8⟩ := at_T52 HX1.out k (by omega) (by omega)
      obtain ⟨bd, B5, d5, B8, d8, rfl, y0, y1, y2, y3, y4, y5, y6, y7, y8, m5, j5, m8, j8⟩ := at_T52 HY1.out k (by omega) (by omega)
      simp only [Int.toNat_natCast] at x0 x1 x2 x3 x4 x5 x6 x7 x8 y0 y1 y2 y3 y4 y5 y6 y7 y8
      have hk0 : (0 : Int) ≤ (k : Int) := by omega
      have hkn : (k : Int) < (n : Int) := by omega
      have I5 := Lib.hid (Kd.C_below i5 (Below.refl _ wr).drew)
      have I8 := Lib.hid (Kd.C_below i8 (Below.refl _ wr).drew)
      have J5 := Lib.hid (Kd.C_below j5 (Below.refl _ wr).drew)
      have J8 := Lib.hid (Kd.C_below j8 (Below.refl _ wr).drew)
      clear i5 i8 j5 j8 l5 l8 m5 m8
      generalize hf : rd_T52 fs k = f at *
      clear hf
      go_wp2
      go_still_tail 8, (by kernel_rfl)
      go_wp2_with (go_at_call 34; refine (same_r f f _ _ _ _ _ _ _ _ _ _ _ _ _ I5.out I8.out J5.out J8.out).mono ?_; rw [sameR_self]; rintro e w' ⟨rfl, hb1⟩)
      go_roundw
      case rel => exact ⟨k + 1, by omega, by go_num, hb.drew.trans (hb1.mono hb.size)⟩
      case measure => simp [intOf]; omega
    · obtain rfl : k = n := by omega
      go_wp2
      go_ret
      exact ⟨rfl, hb⟩
end Go.Proofs.Ytcdhgpodoigddaa
