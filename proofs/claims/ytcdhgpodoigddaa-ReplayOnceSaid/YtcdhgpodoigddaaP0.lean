/-
  Rows of elements of several plain cells: a kind of them; the tail of a row cleared; what DeleteFunc's loop keeps.
-/
import Derived.Test.YtcdhgpodoigddaaWWords
import Derived.Lib.SliceRun
import Derived.Lib.Hide
namespace Go.Proofs.Ytcdhgpodoigddaa
open Go.RowKit Go.Proofs.YtcdhgpodoigddaaW.PrintWords
set_option linter.unusedVariables false
/-- Elements that are so many plain cells. -/
def flatK {α : Type} (enc : α → List Value) (n : Nat) (hn : ∀ x, (enc x).length = n) (h1 : ∀ x, ∀ u ∈ enc x, u.oneCell' = true) : Kd α where
  sz := n
  E := []
  K := fun _ x cs => cs = enc x
  M := fun _ _ _ x cs => cs = enc x
  K_len := fun h => by rw [h]; exact hn _
  K_one := fun h u hu => by rw [h] at hu; exact h1 _ u hu
  K_below := fun _ h => h
  K_of_M := fun h => h
  M_mono := fun _ h => h
  M_bound := fun h => h
  M_move := fun _ h => h
  M_lower := fun _ h => h
section
variable {α : Type} {d : Kd α} {e base g n cap : Nat} {ok : Nat → Prop} {W : World} {xs : List α}
/-- The cells behind the first i elements are written over: the first i elements stay. -/
theorem R_cleared (h : d.R e W base ok (.slice (some ⟨g, 0, none⟩) n cap) xs) (i : Nat) (hi : i ≤ n) (seg : List Value) (hl : seg.length = (n - i) * d.sz) :
    d.R e (W.setCells g (i * d.sz) seg) base ok (.slice (some ⟨g, 0, none⟩) i cap) (xs.take i) ∧ W.grownBy (W.setCells g (i * d.sz) seg) (some g) := by
  have hn : n = xs.length := (Kd.R_reads' h).1
  obtain ⟨s1, s2, s3, s4⟩ := setCells_same g seg (i * d.sz) W
  refine ⟨?_, ⟨s1, s2, s3, by rw [s4]; exact Nat.le_refl _, fun k _ hk => setCells_far seg _ k (fun q => hk (by rw [q]))⟩⟩
  obtain ⟨h0, inner, ho, hr⟩ := h
  have hb : ∀ x : Nat, (Value.slice (some ⟨g, 0, none⟩) x cap).ownBlock = some g := fun x => rfl
  rcases ho.2 with ⟨hv, _⟩ | ⟨g', cap', cur, hv, hbg, hh, hnc, hcm, hcs, ht⟩
  · cases hv
  injection hv with ha _ hc
  injection ha with ha
  injection ha with hg'
  subst hg'; subst hc
  have hmul : i * d.sz + (n - i) * d.sz = n * d.sz := by rw [← Nat.add_mul]; congr 1; omega
  have hcap : n * d.sz ≤ cap * d.sz := Nat.mul_le_mul_right _ (by omega)
  obtain ⟨cur', h3, h4, h5⟩ := setCells_row seg (i * d.sz) W cur hh (by rw [hl, hmul, hcs]; exact hcap)
  have hile : i * d.sz ≤ n * d.sz := Nat.mul_le_mul_right _ hi
  refine ⟨fun k hk => h0 k (by rw [hb]; exact hk), inner.take (i * d.sz), ⟨?_, .inr ⟨g, cap, cur', ?_, hbg, h3, by rw [List.length_take, ← hn, Nat.min_eq_left hi]; omega, hcm, by rw [h4, hcs], ?_⟩⟩, ?_⟩
  · rw [List.length_take, hr.1, List.length_take, ← hn, Nat.min_eq_left hile, Nat.min_eq_left hi]
  · rw [List.length_take, ← hn, Nat.min_eq_left hi]
  · rw [List.length_take, ← hn, Nat.min_eq_left hi, h5, List.append_assoc, List.take_append_of_le_length (by rw [List.length_take, Array.length_toList, hcs]; omega), List.take_take, Nat.min_self, ← ht, List.take_take, ← hn, Nat.min_eq_left hile]
  · refine (Kd.reps_take hr (by omega)).imp_ (fun p c hp => d.M_move (fun k hk => ?_) hp)
    rw [setCells_far seg _ k (fun q => hk.2 (by rw [hb, q]))]
end
/-- 'clear(s)', s a slice of elements of k plain cells: its cells are written over. -/
theorem run_clear_row {P : Program} (w : World) (t e ty : TypeId) (z : Value) (k : Nat) (ht : P.underlying t = some (.slice e)) (hv : ∀ w, (zeroValue e).run P w = .ok z w) (hz : z.cells.size = k) (h1 : ∀ u ∈ z.cells.toList, u.oneCell' = true) (hk : 0 < k) (b o n c : Nat) (hn : 0 < n)
    (hc : ∀ j, j < n * k → (w.cell? ⟨b, o + j, none⟩).isSome = true) (hf : ∀ j, j < n * k → w.frozen? ⟨b, o + j, none⟩ = false) :
    ∃ seg : List Value, seg.length = n * k ∧ (Builtin.clear_ #[t] ty #[.slice (some ⟨b, o, none⟩) n c]).run P w = .ok (.tuple #[]) (w.setCells b o seg) := by
  refine ⟨(Builtin.zeroCells z.cells n).toList, ?_, ?_⟩
  · simp [Builtin.zeroCells, hz]
  · have hl : (Builtin.zeroCells z.cells n).toList.length = n * k := by simp [Builtin.zeroCells, hz]
    have hst := run_storeCells_cells (P := P) b o (Builtin.zeroCells z.cells n).toList 0 w (by rw [hl]; simpa using hc) (by rw [hl]; simpa using hf) (by
      intro v hv'
      have : v ∈ z.cells.toList := by
        simp only [Builtin.zeroCells, Array.toList_map, List.mem_map] at hv'
        obtain ⟨j, _, rfl⟩ := hv'
        rw [Array.mem_toList_iff]
        have hm : j % z.cells.size < z.cells.size := Nat.mod_lt _ (by omega)
        rw [getElem!_pos z.cells (j % z.cells.size) hm]
        exact Array.getElem_mem hm
      exact h1 v this)
    simp only [Nat.add_zero] at hst
    obtain ⟨m, rfl⟩ : ∃ m, n = m + 1 := ⟨n - 1, by omega⟩
    simp [Builtin.clear_, run_underlying ht, hv, hst]
/-- What the loop of DeleteFunc keeps: m elements have been looked at, i are kept, at the row's head; from i on the row is as it was. -/
structure KeepInv {α : Type} (p : α → Bool) (zs : List α) (m i : Nat) (dk : List α) : Prop where
  size : dk.length = zs.length
  le : i < m
  low : dk.take i = (zs.take m).filter p
  high : dk.drop i = zs.drop i
section
variable {α : Type} {p : α → Bool} {zs dk : List α} {m i : Nat}
theorem KeepInv.start (hm : i < zs.length) (hall : ∀ x ∈ zs.take i, p x = true) (hno : p (zs[i]'hm) = false) : KeepInv p zs (i + 1) i zs :=
  ⟨rfl, Nat.lt_succ_self _, by rw [List.take_succ_eq_append_getElem hm, List.filter_append, List.filter_eq_self.2 hall]; simp [hno], rfl⟩
theorem KeepInv.len (h : KeepInv p zs m i dk) (hm : m ≤ zs.length) : ((zs.take m).filter p).length = i := by
  rw [← h.low, List.length_take, h.size]
  have := h.le
  omega
theorem KeepInv.at_ (h : KeepInv p zs m i dk) (hm : m < zs.length) : dk[m]? = zs[m]? := by
  have h1 := congrArg (fun l : List α => l[m - i]?) h.high
  have := h.le
  simp only [List.getElem?_drop] at h1
  rwa [show i + (m - i) = m by omega] at h1
theorem KeepInv.keep (h : KeepInv p zs m i dk) (hm : m < zs.length) {x : α} (hx : zs[m]? = some x) (hk : p x = true) : KeepInv p zs (m + 1) (i + 1) (dk.set i x) := by
  have hx' : zs[m] = x := by rw [List.getElem?_eq_getElem hm] at hx; injection hx
  have hle := h.le
  have hid : i < dk.length := by rw [h.size]; omega
  refine ⟨by rw [List.length_set]; exact h.size, by omega, ?_, ?_⟩
  · rw [List.take_succ_eq_append_getElem hm, List.filter_append, ← h.low, List.take_succ_eq_append_getElem (by rw [List.length_set]; exact hid), List.take_set_of_le (Nat.le_refl _), List.getElem_set_self]
    simp [hx', hk]
  · rw [List.drop_set_of_lt (Nat.lt_succ_self _), Nat.succ_eq_add_one, ← List.drop_drop, h.high, List.drop_drop]
theorem KeepInv.skip (h : KeepInv p zs m i dk) (hm : m < zs.length) {x : α} (hx : zs[m]? = some x) (hk : p x = false) : KeepInv p zs (m + 1) i dk := by
  have hx' : zs[m] = x := by rw [List.getElem?_eq_getElem hm] at hx; injection hx
  exact ⟨h.size, by have := h.le; omega, by rw [List.take_succ_eq_append_getElem hm, List.filter_append, ← h.low]; simp [hx', hk], h.high⟩
theorem KeepInv.done (h : KeepInv p zs zs.length i dk) : dk.take i = zs.filter p := by rw [h.low, List.take_length]
end
end Go.Proofs.Ytcdhgpodoigddaa
