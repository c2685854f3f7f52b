/-
  Two streams, one of the program and one of the reference, that stand for the same thing; a stream's numbers stay in their bounds.
-/
import Derived.Test.YtcdhgpodoigddaaL1
import Derived.Test.YtcdhgpodoigddaaF6
namespace Go.Proofs.Ytcdhgpodoigddaa
open Go.RowKit Go.Proofs.YtcdhgpodoigddaaW.PrintWords Go.Proofs.YtcdhgpodoigddaaW.PrintLast Go.Proofs.YtcdhgpodoigddaaW.PrintMore
set_option linter.unusedVariables false
theorem fit_new {id n : Int} (h : StOk id n) : (St.new id n).Fit := by
  obtain ⟨_, _, h1, h2⟩ := h
  exact ⟨by simp [St.new]; omega, by simp [St.new]; omega, by simp [St.new]⟩
theorem fit_send {s : St} (h : s.Fit) (b : List Int) : (s.send b).Fit := by
  unfold St.send
  split
  · rename_i hs
    refine ⟨h.left0, h.left1, ?_⟩
    simp only [St.sendOk, Bool.and_eq_true, decide_eq_true_eq] at hs
    simp only [List.length_append]
    omega
  · exact h
theorem fit_endIt {s : St} (h : s.Fit) : s.endIt.Fit := by
  unfold St.endIt
  split
  · exact h
  · exact ⟨h.left0, h.left1, h.wait1⟩
theorem fit_reset {s : St} (h : s.Fit) : s.reset.Fit := ⟨h.left0, h.left1, by simp [St.reset]⟩
theorem fit_break {s : St} (h : s.Fit) (code : Int) : (s.break_ code).Fit := by
  unfold St.break_
  split
  · exact fit_reset h
  · exact h
theorem fit_sent {s : St} (h : s.Fit) : s.sent.Fit := by
  have := pieces_left s.id s.wait.length s.left s.wait (Nat.le_refl _) h.left0
  exact ⟨this.1, Int.le_trans this.2.1 h.left1, Nat.le_trans this.2.2 h.wait1⟩
theorem fit_next {s : St} (h : s.Fit) : s.next.2.Fit := by
  unfold St.next
  split
  · exact h
  · split
    · exact ⟨(fit_sent h).left0, (fit_sent h).left1, (fit_sent h).wait1⟩
    · exact fit_sent h
theorem fit_heard {s : St} (h : s.Fit) (x : S52) : (s.heard x).2.2.2.Fit := by
  unfold St.heard
  split
  · exact h
  split
  · split
    · exact fit_reset h
    · exact h
  split
  · split
    · exact fit_reset h
    · exact ⟨h.left0, h.left1, h.wait1⟩
  split
  · split
    · rename_i hg
      have hg' : 1 ≤ x.f3 ∧ x.f3 ≤ 65536 - s.left := by simpa [giveOk] using hg
      have h0 := h.left0
      exact ⟨by simp only; omega, by simp only; omega, h.wait1⟩
    · exact fit_reset h
  split
  · exact fit_reset h
  · exact h
/-- The program's stream lies in okS's blocks, the reference's in okR's; all of them are new since w. -/
def Both (w W : World) (g g' : Nat) (s : St) : Prop := ∃ okS okR : Nat → Prop, (∀ k, okS k → w.heap.size ≤ k ∧ k < W.heap.size) ∧ (∀ k, okR k → w.heap.size ≤ k ∧ k < W.heap.size) ∧ (∀ k, okS k → ¬ okR k) ∧ IsStr W okS g s ∧ IsRef W okR g' s ∧ Below w.heap.size w W
theorem Both.below {w W W1 : World} {g g' : Nat} {s : St} (h : Both w W g g' s) (hb : Below W.heap.size W W1) : Both w W1 g g' s := by
  obtain ⟨okS, okR, h1, h2, h3, hS, hR, hB⟩ := h
  have hs := hb.size
  exact ⟨okS, okR, fun k hk => ⟨(h1 k hk).1, by have := (h1 k hk).2; omega⟩, fun k hk => ⟨(h2 k hk).1, by have := (h2 k hk).2; omega⟩, h3, isStr_below hS hb, isRef_below hR hb, hB.trans (hb.mono hB.size)⟩
theorem both_new {w w1 w2 : World} {g g' : Nat} {s : St} (hS : IsStr w1 (fun k => w.heap.size ≤ k) g s) (hb1 : Below w.heap.size w w1) (hR : IsRef w2 (fun k => w1.heap.size ≤ k) g' s) (hb2 : Below w1.heap.size w1 w2) : Both w w2 g g' s := by
  have q1 := hb1.size
  have q2 := hb2.size
  exact ⟨fun k => w.heap.size ≤ k ∧ k < w1.heap.size, fun k => w1.heap.size ≤ k ∧ k < w2.heap.size, fun k hk => ⟨hk.1, by omega⟩, fun k hk => ⟨by omega, hk.2⟩, fun k hk hn => by omega, isStr_below (isStr_bound hS) hb2, isRef_bound hR, hb1.trans (hb2.mono q1)⟩
/-- What it stands in, opened: the blocks of each. -/
structure Apart (w W : World) (okS okR : Nat → Prop) : Prop where
  s : ∀ k, okS k → w.heap.size ≤ k ∧ k < W.heap.size
  r : ∀ k, okR k → w.heap.size ≤ k ∧ k < W.heap.size
  d : ∀ k, okS k → ¬ okR k
  b : Below w.heap.size w W
theorem Both.open {w W : World} {g g' : Nat} {s : St} (h : Both w W g g' s) : ∃ okS okR, Apart w W okS okR ∧ IsStr W okS g s ∧ IsRef W okR g' s := by
  obtain ⟨okS, okR, h1, h2, h3, hS, hR, hB⟩ := h
  exact ⟨okS, okR, ⟨h1, h2, h3, hB⟩, hS, hR⟩
/-- A call on the program's stream alone. -/
theorem half_r {w W w1 : World} {okS okR : Nat → Prop} {g' : Nat} {s : St} (ha : Apart w W okS okR) (hR : IsRef W okR g' s) (hm : Mod okS W w1) : IsRef w1 okR g' s := isRef_mod hR hm (fun k hk hn => ha.d k hn hk)
/-- .. then on the reference's alone. -/
theorem both_step {w W w1 w2 : World} {okS okR : Nat → Prop} {g g' : Nat} {s1 : St} (ha : Apart w W okS okR) (hS : IsStr w1 (fun k => okS k ∨ W.heap.size ≤ k) g s1) (hm1 : Mod okS W w1) (hR : IsRef w2 (fun k => okR k ∨ w1.heap.size ≤ k) g' s1) (hm2 : Mod okR w1 w2) : Both w w2 g g' s1 := by
  have q0 := ha.b.size
  have q1 := hm1.size
  have q2 := hm2.size
  refine ⟨fun k => (okS k ∨ W.heap.size ≤ k) ∧ k < w1.heap.size, fun k => (okR k ∨ w1.heap.size ≤ k) ∧ k < w2.heap.size, fun k hk => ⟨?_, ?_⟩, fun k hk => ⟨?_, hk.2⟩, fun k hk hn => ?_, isStr_mod (isStr_bound hS) hm2 (fun k hk hn => ?_), isRef_bound hR, ?_⟩
  · rcases hk.1 with h | h
    · exact (ha.s k h).1
    · omega
  · have := hk.2; omega
  · rcases hk.1 with h | h
    · exact (ha.r k h).1
    · omega
  · rcases hn.1 with h | h
    · rcases hk.1 with h' | h'
      · exact ha.d k h' h
      · have := (ha.r k h).2; omega
    · have := hk.2; omega
  · rcases hk.1 with h' | h'
    · exact ha.d k h' hn
    · have := (ha.r k hn).2; omega
  · have h1 : Below w.heap.size W w1 := hm1.below (fun k hk => (ha.s k hk).1) q0
    have h2 : Below w.heap.size w1 w2 := hm2.below (fun k hk => (ha.r k hk).1) (by omega)
    exact (ha.b.trans h1).trans h2
theorem both_step' {w W w1 w2 : World} {okS okR : Nat → Prop} {g g' : Nat} {s1 : St} (ha : Apart w W okS okR) (hS : IsStr w1 okS g s1) (hm1 : Mod okS W w1) (hR : IsRef w2 okR g' s1) (hm2 : Mod okR w1 w2) : Both w w2 g g' s1 :=
  both_step ha (isStr_mono hS (fun k hk => .inl hk)) hm1 (isRef_mono hR (fun k hk => .inl hk)) hm2
end Go.Proofs.Ytcdhgpodoigddaa
