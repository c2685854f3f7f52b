/-
  When two addresses are the same, by the program and by the reference.
-/
import Derived.Test.YtcdhgpodoigddaaF3
namespace Go.Proofs.Ytcdhgpodoigddaa
open Go.RowKit Go.Proofs.YtcdhgpodoigddaaW.PrintWords Go.Proofs.YtcdhgpodoigddaaW.PrintLast Go.Proofs.YtcdhgpodoigddaaW.PrintMore
set_option linter.unusedVariables false
def sameAddrP (x y : S50) : Bool := x.f0 == y.f0 && (decide (x.f1 = y.f1) && (x.f2.toList == y.f2.toList && x.f3 == y.f3))
def sameAddrR (x y : S50) : Bool := x.f0 == y.f0 && ((strOfNums x.f1).toList == (strOfNums y.f1).toList && (x.f2.toList == y.f2.toList && x.f3 == y.f3))
theorem below2 (w : World) (o1 o2 : Obj) : Below w.heap.size w ((w.alloc o1).alloc o2) := ((Below.refl w.heap.size w).alloc (Nat.le_refl _) _).alloc (by simp) _
theorem string_B {w : World} {A : Option Addr} {n c : Nat} {xs : List Int} (h : kB.C w A n xs) : Sem.run Try.prog (convert 31 9 (.slice A n c)) w = .ok (.string (strOfNums xs)) w :=
  Kd.C_string Try.underlying31 Try.underlying5 Try.underlying9 h
set_option maxHeartbeats 1000000 in
theorem sameAddr_p (x y : S50) (A B : Option Addr) (n m c d : Nat) (w : World) (hx : kB.C w A n x.f1) (hy : kB.C w B m y.f1) :
    Calls Try.prog 138 #[.agg #[.int .i64 x.f0, .slice A n c, .string x.f2, .int .i64 x.f3], .agg #[.int .i64 y.f0, .slice B m d, .string y.f2, .int .i64 y.f3]] w fun e w' => e = .returned (.bool (sameAddrP x y)) ∧ Below w.heap.size w w' := by
  obtain ⟨a0, a1, a2, a3⟩ := x
  obtain ⟨b0, b1, b2, b3⟩ := y
  dsimp only at *
  have HX : ∀ o1 o2, Hid (kB.C ((w.alloc o1).alloc o2) A n a1) := fun o1 o2 => Lib.hid (Kd.C_below hx (below2 w o1 o2))
  have HY : ∀ o1 o2, Hid (kB.C ((w.alloc o1).alloc o2) B m b1) := fun o1 o2 => Lib.hid (Kd.C_below hy (below2 w o1 o2))
  clear hx hy
  unfold sameAddrP
  by_cases h0 : a0 = b0
  · have e0 : (a0 == b0) = true := beq_iff_eq.mpr h0
    have E0 := Lib.hid e0
    by_cases h1 : a1 = b1
    · have H1 : Hid (decide (a1 = b1) = true) := Lib.hid (decide_eq_true h1)
      clear h0 h1
      go_enter Try.func138, Try.ntmps138
      go_wp2_with (go_at_call 139; refine (equal_B _ _ _ _ _ _ _ _ _ (HX _ _).out (HY _ _).out).mono ?_; rw [H1.out]; rintro e w' ⟨rfl, q, rfl⟩)
      all_goals
        go_ret
        refine ⟨by simp [E0.out, H1.out, *], below_drewN' (below2 _ _ _) _⟩
    · have H1 : Hid (decide (a1 = b1) = false) := Lib.hid (decide_eq_false h1)
      clear h0 h1
      go_enter Try.func138, Try.ntmps138
      go_wp2_with (go_at_call 139; refine (equal_B _ _ _ _ _ _ _ _ _ (HX _ _).out (HY _ _).out).mono ?_; rw [H1.out]; rintro e w' ⟨rfl, q, rfl⟩)
      go_ret
      exact ⟨by rw [E0.out, H1.out]; rfl, below_drewN' (below2 _ _ _) _⟩
  · have e0 : (a0 == b0) = false := beq_eq_false_iff_ne.mpr h0
    have E0 := Lib.hid e0
    clear h0
    go_enter Try.func138, Try.ntmps138
    go_wp2_with fail
    go_ret
    exact ⟨by rw [E0.out]; rfl, below2 _ _ _⟩
set_option maxHeartbeats 1000000 in
theorem sameAddr_r (x y : S50) (A B : Option Addr) (n m c d : Nat) (w : World) (hx : kB.C w A n x.f1) (hy : kB.C w B m y.f1) :
    Calls Try.prog 90 #[.agg #[.int .i64 x.f0, .slice A n c, .string x.f2, .int .i64 x.f3], .agg #[.int .i64 y.f0, .slice B m d, .string y.f2, .int .i64 y.f3]] w fun e w' => e = .returned (.bool (sameAddrR x y)) ∧ Below w.heap.size w w' := by
  obtain ⟨a0, a1, a2, a3⟩ := x
  obtain ⟨b0, b1, b2, b3⟩ := y
  dsimp only at *
  have HX : ∀ o1 o2, Sem.run Try.prog (convert 31 9 (.slice A n c)) ((w.alloc o1).alloc o2) = .ok (.string (strOfNums a1)) ((w.alloc o1).alloc o2) := fun o1 o2 => string_B (Kd.C_below hx (below2 w o1 o2))
  have HY : ∀ o1 o2, Sem.run Try.prog (convert 31 9 (.slice B m d)) ((w.alloc o1).alloc o2) = .ok (.string (strOfNums b1)) ((w.alloc o1).alloc o2) := fun o1 o2 => string_B (Kd.C_below hy (below2 w o1 o2))
  clear hx hy
  unfold sameAddrR
  generalize strOfNums a1 = sa at *
  generalize strOfNums b1 = sb at *
  by_cases h0 : a0 = b0
  · have e0 : (a0 == b0) = true := beq_iff_eq.mpr h0
    have E0 := Lib.hid e0
    clear h0
    go_enter Try.func90, Try.ntmps90
    go_wp2
    all_goals
      go_ret
      refine ⟨by simp [E0.out, *], below2 _ _ _⟩
  · have e0 : (a0 == b0) = false := beq_eq_false_iff_ne.mpr h0
    have E0 := Lib.hid e0
    clear h0
    go_enter Try.func90, Try.ntmps90
    go_wp2_with fail
    go_ret
    exact ⟨by rw [E0.out]; rfl, below2 _ _ _⟩
end Go.Proofs.Ytcdhgpodoigddaa
