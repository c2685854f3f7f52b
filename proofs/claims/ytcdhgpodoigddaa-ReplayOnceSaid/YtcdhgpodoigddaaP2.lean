/-
  A key of 32 bytes, of some.
-/
import Derived.Test.YtcdhgpodoigddaaP1
import Derived.Test.YtcdhgpodoigddaaA
namespace Go.Proofs.Ytcdhgpodoigddaa
open Go.RowKit Go.Proofs.YtcdhgpodoigddaaW.PrintWords Go.Proofs.YtcdhgpodoigddaaW.PrintLast Go.Proofs.YtcdhgpodoigddaaW.PrintMore
set_option linter.unusedVariables false
def keyOf (xs : List Int) : List Int := xs.take (min xs.length 32) ++ (List.replicate 32 0).drop (min xs.length 32)
theorem keyOf_length (xs : List Int) : (keyOf xs).length = 32 := by unfold keyOf; simp; omega
set_option maxRecDepth 100000 in
set_option maxHeartbeats 1000000 in
theorem key_any (A : Option Addr) (n c : Nat) (xs : List Int) (w : World) (hC : kB.C w A n xs) :
    Calls Try.prog 19 #[.slice A n c] w fun e w' => ∃ v, e = .returned v ∧ kB.R 5 w' w.heap.size (fun k => w.heap.size ≤ k) v (keyOf xs) ∧ Below w.heap.size w w' := by
  have hn : xs.length = n := hC.1
  have HC := Lib.hid hC
  have HN := Lib.hid hn
  clear hC hn
  go_enter Try.func19, Try.ntmps19
  go_wp2_with (first
    | (at_make; refine Kd.R_make (P := Try.prog) kB (w0 := w) w.heap.size 5 rfl rfl 31 _ _ rfl 32 rfl rfl Try.underlying31 (.int .u8 0) 1 info5 rfl (by decide) (by decide) (0 : Int) (okp := fun _ => False) (ok := fun k => w.heap.size ≤ k) rfl (fun _ h => h.elim) (Nat.le_refl _) (by decide) (by decide) (Below.refl _ _) (Nat.le_refl _) ?_; intro v1 w1 hR hb hg hat; have HR := Lib.hid hR; have hs := hb.size; clear hR)
    | (refine Kd.R_copy (P := Try.prog) (0 : Int) (w0 := w) w.heap.size rfl _ _ 31 31 5 rfl Try.underlying31 (by kernel_rfl) v1 _ xs A n c _ rfl rfl HR.out (Kd.C_below HC.out hb) hb hs ?_; intro w2 hR2 hb2 hg2; have HR2 := Lib.hid hR2; clear hR2))
  go_ret
  exact ⟨_, rfl, by have q := HR2.out; rw [← HN.out, List.length_replicate] at q; exact q, hb2⟩
end Go.Proofs.Ytcdhgpodoigddaa
