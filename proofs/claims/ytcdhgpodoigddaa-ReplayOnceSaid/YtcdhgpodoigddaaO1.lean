/-
  Rows of structs that came in, opened.
-/
import Derived.Test.YtcdhgpodoigddaaB
import Derived.Deep.Slices
import Derived.ChangeSame
import Derived.ProofKit
import Derived.OpenShut
import Derived.ShutString
import Derived.ChangeOld
import Derived.Below
namespace Go.Proofs.Ytcdhgpodoigddaa
open Go.ChangeShapes Go.WideShapes Go.ChangeAt Go.Deep
open Go.RowKit Go.Proofs.YtcdhgpodoigddaaW.PrintWords
set_option linter.unusedVariables false
section
variable {H : Type} {enc : TypeId × Value → H} {w : World} {base : Nat} {spare : Nat → Bool} {held : Bool}
/-- What is read as a t, is one of the kind. -/
def Opens (enc : TypeId × Value → H) (w : World) (base : Nat) (spare : Nat → Bool) (held : Bool) {α : Type} (k : Kd α) (t : TypeId) (good : α → Prop) : Prop :=
  ∀ (fuel : Nat) (cs : List Value) (y : DataW H × List MemPlace), DataW.trod enc Try.prog w base spare held fuel t cs = some y → ∃ x, k.K w x cs ∧ good x
theorem trod_int {t : TypeId} {k : IntKind} {fuel : Nat} {cs : List Value} {y : DataW H × List MemPlace} (ht : Try.prog.underlying t = some (.int k)) (h : DataW.trod enc Try.prog w base spare held fuel t cs = some y) : ∃ n, cs = [.int k n] := by
  cases fuel with
  | zero => simp [DataW.trod] at h
  | succ fuel =>
    unfold DataW.trod at h
    rw [ht] at h
    split at h <;> simp_all
theorem trod_str {t : TypeId} {fuel : Nat} {cs : List Value} {y : DataW H × List MemPlace} (ht : Try.prog.underlying t = some .string) (h : DataW.trod enc Try.prog w base spare held fuel t cs = some y) : ∃ s, cs = [.string s] ∧ s.size ≤ maxLen := by
  cases fuel with
  | zero => simp [DataW.trod] at h
  | succ fuel =>
    unfold DataW.trod at h
    rw [ht] at h
    split at h <;> simp_all
theorem opens_int {t : TypeId} {k : IntKind} (ht : Try.prog.underlying t = some (.int k)) : Opens enc w base spare held (Kd.int k) t (fun _ => True) := fun fuel cs y h => by
  obtain ⟨n, rfl⟩ := trod_int ht h
  exact ⟨n, rfl, trivial⟩
theorem opens_slice {α : Type} {d : Kd α} {t e : TypeId} {good : α → Prop} (z : α) (ht : Try.prog.underlying t = some (.slice e)) (hs : Try.prog.cellsOf e = d.sz) (hd : Opens enc w base spare held d e good) {fuel : Nat} {cs : List Value} {y : DataW H × List MemPlace}
    (h : DataW.trod enc Try.prog w base spare held fuel t cs = some y) : ∃ A xs c, cs = [.slice A xs.length c] ∧ xs.length ≤ c ∧ d.C w A xs.length xs ∧ ∀ x ∈ xs, good x := by
  rcases open_slice ht h with ⟨rfl, _⟩ | ⟨a, len, cap, m, n, D, Pl, rfl, hb, hl, hm, hmm, _, hx⟩
  · exact ⟨none, [], 0, rfl, Nat.le_refl _, Kd.C_nil _ _, fun x hx => by cases hx⟩
  · have hlm : len ≤ m := by rw [hmm]; split <;> omega
    have hex : ∀ i, i < len → ∃ x, (∃ c, c.length = d.sz ∧ d.K w x c ∧ ∀ j u, c[j]? = some u → w.cell? (a.add (i * d.sz + j)) = some u) ∧ good x := fun i hi => by
      obtain ⟨cs', h1, h2⟩ := hx i (by omega)
      rw [hs] at h1
      obtain ⟨x, hK, hg⟩ := hd _ _ _ h2
      obtain ⟨_, hlen, hc⟩ := World.cells?_some h1
      refine ⟨x, ⟨cs', hlen, hK, fun j u hu => ?_⟩, hg⟩
      have hj : j < d.sz := by
        rcases Nat.lt_or_ge j cs'.length with h | h
        · omega
        · rw [List.getElem?_eq_none h] at hu; cases hu
      rw [← Go.Deep.add_add, hc j hj, hu]
    have : Inhabited α := ⟨z⟩
    obtain ⟨f, hf⟩ := choose_lt hex
    refine ⟨some a, (List.range len).map f, cap, by simp, by simpa using hl, ⟨by simp, ?_, fun hp => ⟨a, rfl, fun j p hj => ?_⟩⟩, fun x hx => ?_⟩
    · simp [maxLen] at hm ⊢; omega
    · have hjl : j < len := by
        rcases Nat.lt_or_ge j len with h | h
        · exact h
        · rw [List.getElem?_eq_none (by simpa using h)] at hj; cases hj
      simp [hjl] at hj
      subst hj
      obtain ⟨c, hc1, hc2, hc3⟩ := (hf j hjl).1
      exact ⟨c, hc1, hc2, hc3⟩
    · obtain ⟨i, hi, rfl⟩ := List.mem_map.1 hx
      exact (hf i (List.mem_range.1 hi)).2
theorem cells3 : Try.prog.cellsOf 3 = 1 := by kernel_rfl
theorem cells5 : Try.prog.cellsOf 5 = 1 := by kernel_rfl
theorem cells9 : Try.prog.cellsOf 9 = 1 := by kernel_rfl
theorem cells31 : Try.prog.cellsOf 31 = 1 := by kernel_rfl
theorem cells50 : Try.prog.cellsOf 50 = 4 := by kernel_rfl
theorem cells52 : Try.prog.cellsOf 52 = 9 := by kernel_rfl
theorem cells54 : Try.prog.cellsOf 54 = 12 := by kernel_rfl
theorem opens_bytes {fuel : Nat} {cs : List Value} {y : DataW H × List MemPlace} (h : DataW.trod enc Try.prog w base spare held fuel 31 cs = some y) : ∃ A xs c, cs = [.slice A xs.length c] ∧ xs.length ≤ c ∧ kB.C w A xs.length xs := by
  obtain ⟨A, xs, c, h1, h2, h3, _⟩ := opens_slice (0 : Int) Try.underlying31 cells5 (opens_int Try.underlying5) h
  exact ⟨A, xs, c, h1, h2, h3⟩
theorem some_of {xs : List (DataW H × List MemPlace)} {n : Nat} (h : xs.length = n) (i : Nat) (hi : i < n) : ∃ y, xs[i]? = some y := ⟨_, List.getElem?_eq_getElem (by omega)⟩
theorem len4 {cs : List Value} (h : cs.length = 4) : ∃ v0 v1 v2 v3, cs = [v0, v1, v2, v3] := by
  match cs, h with
  | [v0, v1, v2, v3], _ => exact ⟨v0, v1, v2, v3, rfl⟩
theorem len9 {cs : List Value} (h : cs.length = 9) : ∃ v0 v1 v2 v3 v4 v5 v6 v7 v8, cs = [v0, v1, v2, v3, v4, v5, v6, v7, v8] := by
  match cs, h with
  | [v0, v1, v2, v3, v4, v5, v6, v7, v8], _ => exact ⟨v0, v1, v2, v3, v4, v5, v6, v7, v8, rfl⟩
theorem len12 {cs : List Value} (h : cs.length = 12) : ∃ v0 v1 v2 v3 v4 v5 v6 v7 v8 v9 v10 v11, cs = [v0, v1, v2, v3, v4, v5, v6, v7, v8, v9, v10, v11] := by
  match cs, h with
  | [v0, v1, v2, v3, v4, v5, v6, v7, v8, v9, v10, v11], _ => exact ⟨v0, v1, v2, v3, v4, v5, v6, v7, v8, v9, v10, v11, rfl⟩
theorem piece {cs r : List Value} {t o k : Nat} (h : (cs.drop o).take (Try.prog.cellsOf t) = r) (hk : Try.prog.cellsOf t = k) : (cs.drop o).take k = r := by rw [hk] at h; exact h
theorem opens_50 : Opens enc w base spare held k50 50 (fun x => x.f2.size ≤ maxLen) := fun fuel cs y h => by
  obtain ⟨xs, n, _, _, hl, hlen, hf⟩ := DataW.trod_struct Try.underlying50 h
  rw [cells50] at hl
  obtain ⟨y0, e0⟩ := some_of hlen 0 (by decide)
  obtain ⟨y1, e1⟩ := some_of hlen 1 (by decide)
  obtain ⟨y2, e2⟩ := some_of hlen 2 (by decide)
  obtain ⟨y3, e3⟩ := some_of hlen 3 (by decide)
  obtain ⟨n0, q0⟩ := trod_int Try.underlying3 ((hf 0 _ rfl).trans e0)
  obtain ⟨A1, b1, c1, q1, l1, g1⟩ := opens_bytes ((hf 1 _ rfl).trans e1)
  obtain ⟨s2, q2, hs2⟩ := trod_str Try.underlying9 ((hf 2 _ rfl).trans e2)
  obtain ⟨n3, q3⟩ := trod_int Try.underlying3 ((hf 3 _ rfl).trans e3)
  have r0 := piece (o := 0) (t := 3) q0 cells3
  have r1 := piece (o := 1) (t := 31) q1 cells31
  have r2 := piece (o := 2) (t := 9) q2 cells9
  have r3 := piece (o := 3) (t := 3) q3 cells3
  clear hf q0 q1 q2 q3
  obtain ⟨v0, v1, v2, v3, rfl⟩ := len4 hl
  simp at r0 r1 r2 r3
  subst r0 r1 r2 r3
  exact ⟨⟨n0, b1, s2, n3⟩, k50_mk w ⟨n0, b1, s2, n3⟩ l1 g1, hs2⟩
theorem opens_52 : Opens enc w base spare held k52 52 (fun x => x.f4.f2.size ≤ maxLen) := fun fuel cs y h => by
  obtain ⟨xs, n, _, _, hl, hlen, hf⟩ := DataW.trod_struct Try.underlying52 h
  rw [cells52] at hl
  obtain ⟨y0, e0⟩ := some_of hlen 0 (by decide)
  obtain ⟨y1, e1⟩ := some_of hlen 1 (by decide)
  obtain ⟨y2, e2⟩ := some_of hlen 2 (by decide)
  obtain ⟨y3, e3⟩ := some_of hlen 3 (by decide)
  obtain ⟨y4, e4⟩ := some_of hlen 4 (by decide)
  obtain ⟨y5, e5⟩ := some_of hlen 5 (by decide)
  obtain ⟨n0, q0⟩ := trod_int Try.underlying3 ((hf 0 _ rfl).trans e0)
  obtain ⟨n1, q1⟩ := trod_int Try.underlying3 ((hf 1 _ rfl).trans e1)
  obtain ⟨n2, q2⟩ := trod_int Try.underlying3 ((hf 2 _ rfl).trans e2)
  obtain ⟨n3, q3⟩ := trod_int Try.underlying3 ((hf 3 _ rfl).trans e3)
  obtain ⟨x4, q4, hs4⟩ := opens_50 _ _ _ ((hf 4 _ rfl).trans e4)
  obtain ⟨A5, b5, c5, q5, l5, g5⟩ := opens_bytes ((hf 5 _ rfl).trans e5)
  obtain ⟨A4, c4, q4, l4, g4⟩ := k50_open q4
  have r0 := piece (o := 0) (t := 3) q0 cells3
  have r1 := piece (o := 1) (t := 3) q1 cells3
  have r2 := piece (o := 2) (t := 3) q2 cells3
  have r3 := piece (o := 3) (t := 3) q3 cells3
  have r4 := piece (o := 4) (t := 50) q4 cells50
  have r5 := piece (o := 8) (t := 31) q5 cells31
  clear hf q0 q1 q2 q3 q4 q5
  obtain ⟨v0, v1, v2, v3, v4, v5, v6, v7, v8, rfl⟩ := len9 hl
  simp at r0 r1 r2 r3 r4 r5
  obtain ⟨q40, q41, q42, q43⟩ := r4
  subst r0 r1 r2 r3 q40 q41 q42 q43 r5
  exact ⟨⟨n0, n1, n2, n3, x4, b5⟩, k52_mk w ⟨n0, n1, n2, n3, x4, b5⟩ l4 g4 l5 g5, hs4⟩
theorem opens_54 : Opens enc w base spare held k54 54 (fun x => x.f3.f4.f2.size ≤ maxLen) := fun fuel cs y h => by
  obtain ⟨xs, n, _, _, hl, hlen, hf⟩ := DataW.trod_struct Try.underlying54 h
  rw [cells54] at hl
  obtain ⟨y0, e0⟩ := some_of hlen 0 (by decide)
  obtain ⟨y1, e1⟩ := some_of hlen 1 (by decide)
  obtain ⟨y2, e2⟩ := some_of hlen 2 (by decide)
  obtain ⟨y3, e3⟩ := some_of hlen 3 (by decide)
  obtain ⟨n0, q0⟩ := trod_int Try.underlying3 ((hf 0 _ rfl).trans e0)
  obtain ⟨n1, q1⟩ := trod_int Try.underlying3 ((hf 1 _ rfl).trans e1)
  obtain ⟨A2, b2, c2, q2, l2, g2⟩ := opens_bytes ((hf 2 _ rfl).trans e2)
  obtain ⟨x3, q3, hs3⟩ := opens_52 _ _ _ ((hf 3 _ rfl).trans e3)
  obtain ⟨A5, c5, A8, c8, q3, l5, g5, l8, g8⟩ := k52_open q3
  have r0 := piece (o := 0) (t := 3) q0 cells3
  have r1 := piece (o := 1) (t := 3) q1 cells3
  have r2 := piece (o := 2) (t := 31) q2 cells31
  have r3 := piece (o := 3) (t := 52) q3 cells52
  clear hf q0 q1 q2 q3
  obtain ⟨v0, v1, v2, v3, v4, v5, v6, v7, v8, v9, v10, v11, rfl⟩ := len12 hl
  simp at r0 r1 r2 r3
  obtain ⟨p0, p1, p2, p3, p4, p5, p6, p7, p8⟩ := r3
  subst r0 r1 r2 p0 p1 p2 p3 p4 p5 p6 p7 p8
  exact ⟨⟨n0, n1, b2, x3⟩, k54_mk w ⟨n0, n1, b2, x3⟩ l2 g2 l5 g5 l8 g8, hs3⟩
end
end Go.Proofs.Ytcdhgpodoigddaa
