/-
  No first message is taken twice: the plain law of the filter.
-/
import Derived.Test.YtcdhgpodoigddaaP76
namespace Go.Proofs.Ytcdhgpodoigddaa
set_option linter.unusedVariables false
/-- At time N, of a filter of that window: what was taken so far. -/
structure Once (W N : Int) (f : Fil) (acc : List (List Int × Int)) : Prop where
  win : f.win = W
  top : ∀ p ∈ acc, 0 ≤ p.2 ∧ p.2 ≤ N + W
  cover : ∀ p ∈ acc, p.2 ≤ f.since ∨ p.2 < N - W ∨ ∃ x ∈ f.l, x.e = p.1 ∧ x.st = p.2
theorem once_young {W N N' : Int} {f : Fil} {acc : List (List Int × Int)} (h : Once W N f acc) (hN : N ≤ N') : Once W N' { f with l := f.young N' } acc := by
  refine ⟨h.win, fun p hp => ⟨(h.top p hp).1, by have := (h.top p hp).2; omega⟩, fun p hp => ?_⟩
  rcases h.cover p hp with q | q | ⟨x, hx, he, hs⟩
  · exact .inl q
  · exact .inr (.inl (by omega))
  · by_cases ho : x.st < N' - f.win
    · exact .inr (.inl (by rw [← hs, ← h.win]; exact ho))
    · exact .inr (.inr ⟨x, List.mem_filter.2 ⟨hx, by unfold oldB; simpa using ho⟩, he, hs⟩)
theorem once_mono {W N N' : Int} {f : Fil} {acc : List (List Int × Int)} (h : Once W N f acc) (hN : N ≤ N') : Once W N' f acc :=
  ⟨h.win, fun p hp => ⟨(h.top p hp).1, by have := (h.top p hp).2; omega⟩, fun p hp => (h.cover p hp).imp id (fun q => q.imp (fun r => by omega) id)⟩
theorem once_new {W N N' : Int} {f : Fil} {acc : List (List Int × Int)} (most : Int) (h : Once W N f acc) (hN : N ≤ N') (hW0 : 0 ≤ W) (hW1 : W ≤ 1000) (hN0 : 0 ≤ N') (hN1 : N' ≤ 100000) : Once W N' (Fil.new W most N') acc := by
  have h1 : cutT W = W := by unfold cutT; omega
  have h2 : cutT N' = N' := by unfold cutT; omega
  refine ⟨by unfold Fil.new; exact h1, fun p hp => ⟨(h.top p hp).1, by have := (h.top p hp).2; omega⟩, fun p hp => .inl ?_⟩
  unfold Fil.new
  simp only
  rw [h1, h2]
  have := (h.top p hp).2
  omega
theorem once_check {W N N' : Int} {f : Fil} {acc : List (List Int × Int)} (h : Once W N f acc) (hN : N ≤ N') (stamp : Int) (e : List Int) :
    ((f.check N' stamp e).1 = 0 → (e, stamp) ∉ acc ∧ 0 ≤ stamp ∧ N' - W ≤ stamp ∧ stamp ≤ N' + W ∧ Once W N' (f.check N' stamp e).2 ((e, stamp) :: acc)) ∧ ((f.check N' stamp e).1 ≠ 0 → Once W N' (f.check N' stamp e).2 acc) := by
  have hy := once_young h hN
  unfold Fil.check
  split
  · exact ⟨fun q => by simp at q, fun _ => once_mono h hN⟩
  rename_i hg
  split
  · exact ⟨fun q => by simp at q, fun _ => hy⟩
  rename_i hl
  split
  · exact ⟨fun q => by simp at q, fun _ => hy⟩
  rename_i ha
  split
  · exact ⟨fun q => by simp at q, fun _ => hy⟩
  split
  · rename_i hlen
    have hg' : goodB N' stamp e.length = true := by simpa using hg
    have hs : stamp = cutT stamp := by
      unfold goodB at hg'
      simp only [Bool.and_eq_true, beq_iff_eq] at hg'
      exact hg'.1.2
    have hl' : ¬ stamp < N' - f.win ∧ ¬ N' + f.win < stamp ∧ ¬ stamp ≤ f.since := by
      unfold lateB at hl
      simp only [Bool.or_eq_true, decide_eq_true_eq, not_or] at hl
      exact ⟨hl.1.1, hl.1.2, hl.2⟩
    have hw := h.win
    have hs0 := (cutT_bounds stamp).1
    rw [← hs] at hs0
    refine ⟨fun _ => ⟨fun hm => ?_, hs0, by omega, by omega, ⟨h.win, fun p hp => ?_, fun p hp => ?_⟩⟩, fun q => absurd rfl q⟩
    · rcases hy.cover _ hm with q | q | ⟨x, hx, he, hst⟩
      · exact hl'.2.2 q
      · exact hl'.1 (by rw [hw]; exact q)
      · exact ha (List.any_eq_true.2 ⟨x, hx, by rw [he]; simp⟩)
    · rcases List.mem_cons.1 hp with rfl | hp
      · exact ⟨hs0, by simp only; omega⟩
      · exact hy.top p hp
    · rcases List.mem_cons.1 hp with rfl | hp
      · exact .inr (.inr ⟨⟨e, stamp, hlen⟩, List.mem_append_right _ (by simp), rfl, rfl⟩)
      · rcases hy.cover p hp with q | q | ⟨x, hx, he, hst⟩
        · exact .inl q
        · exact .inr (.inl q)
        · exact .inr (.inr ⟨x, List.mem_append_left _ hx, he, hst⟩)
  · exact ⟨fun q => by simp at q, fun _ => once_mono h hN⟩
end Go.Proofs.Ytcdhgpodoigddaa
