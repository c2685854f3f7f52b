/-
  A row of calls of the filter's laws that came in, opened: its bytes are bytes.
-/
import Derived.Test.YtcdhgpodoigddaaO1
import Derived.Test.YtcdhgpodoigddaaP11
namespace Go.Proofs.Ytcdhgpodoigddaa
open Go.ChangeShapes Go.WideShapes Go.ChangeAt Go.Deep
open Go.RowKit Go.Proofs.YtcdhgpodoigddaaW.PrintWords
set_option linter.unusedVariables false
section
variable {H : Type} {enc : TypeId × Value → H} {w : World} {base : Nat} {spare : Nat → Bool} {held : Bool}
theorem trod_byte {t : TypeId} {fuel : Nat} {cs : List Value} {y : DataW H × List MemPlace} (ht : Try.prog.underlying t = some (.int .u8)) (h : DataW.trod enc Try.prog w base spare held fuel t cs = some y) : ∃ n, cs = [.int .u8 n] ∧ 0 ≤ n ∧ n ≤ 255 := by
  cases fuel with
  | zero => simp [DataW.trod] at h
  | succ fuel =>
    unfold DataW.trod at h
    rw [ht] at h
    split at h <;> simp_all
    rename_i k n _ _
    have hw := h.1.2
    simp [Lit.wf] at hw
    have hk : IntKind.u8 = k := by assumption
    subst hk
    exact hw
theorem trod_bool {t : TypeId} {fuel : Nat} {cs : List Value} {y : DataW H × List MemPlace} (ht : Try.prog.underlying t = some .bool) (h : DataW.trod enc Try.prog w base spare held fuel t cs = some y) : ∃ b, cs = [.bool b] := by
  cases fuel with
  | zero => simp [DataW.trod] at h
  | succ fuel =>
    unfold DataW.trod at h
    rw [ht] at h
    split at h <;> simp_all
theorem opens_byte : Opens enc w base spare held kB 5 (fun n => 0 ≤ n ∧ n ≤ 255) := fun fuel cs y h => by
  obtain ⟨n, rfl, hn⟩ := trod_byte Try.underlying5 h
  exact ⟨n, rfl, hn⟩
theorem opens_bytesB {fuel : Nat} {cs : List Value} {y : DataW H × List MemPlace} (h : DataW.trod enc Try.prog w base spare held fuel 31 cs = some y) : ∃ A xs c, cs = [.slice A xs.length c] ∧ xs.length ≤ c ∧ kB.C w A xs.length xs ∧ ByteL xs :=
  opens_slice (0 : Int) Try.underlying31 cells5 opens_byte h
theorem cells2 : Try.prog.cellsOf 2 = 1 := by kernel_rfl
theorem cells4 : Try.prog.cellsOf 4 = 1 := by kernel_rfl
theorem cells33 : Try.prog.cellsOf 33 = 4 := by kernel_rfl
theorem opens_33 : Opens enc w base spare held k33 33 (fun x => ByteL x.f2) := fun fuel cs y h => by
  obtain ⟨xs, n, _, _, hl, hlen, hf⟩ := DataW.trod_struct Try.underlying33 h
  rw [cells33] at hl
  obtain ⟨y0, e0⟩ := some_of hlen 0 (by decide)
  obtain ⟨y1, e1⟩ := some_of hlen 1 (by decide)
  obtain ⟨y2, e2⟩ := some_of hlen 2 (by decide)
  obtain ⟨y3, e3⟩ := some_of hlen 3 (by decide)
  obtain ⟨n0, q0⟩ := trod_int Try.underlying2 ((hf 0 _ rfl).trans e0)
  obtain ⟨n1, q1⟩ := trod_int Try.underlying2 ((hf 1 _ rfl).trans e1)
  obtain ⟨A2, b2, c2, q2, l2, g2, hb2⟩ := opens_bytesB ((hf 2 _ rfl).trans e2)
  obtain ⟨b3, q3⟩ := trod_bool Try.underlying4 ((hf 3 _ rfl).trans e3)
  have r0 := piece (o := 0) (t := 2) q0 cells2
  have r1 := piece (o := 1) (t := 2) q1 cells2
  have r2 := piece (o := 2) (t := 31) q2 cells31
  have r3 := piece (o := 3) (t := 4) q3 cells4
  clear hf q0 q1 q2 q3
  obtain ⟨v0, v1, v2, v3, rfl⟩ := len4 hl
  simp at r0 r1 r2 r3
  subst r0 r1 r2 r3
  exact ⟨⟨n0, n1, b2, b3⟩, k33_mk w ⟨n0, n1, b2, b3⟩ l2 g2, hb2⟩
end
end Go.Proofs.Ytcdhgpodoigddaa
