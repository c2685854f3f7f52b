/-
  The keys of the law ReplayOnce and the map of what was taken; numbers made small.
-/
import Derived.Test.YtcdhgpodoigddaaP11
import Derived.Test.YtcdhgpodoigddaaQ1
import Derived.Maps.OwnOps
import Derived.Maps.OwnSet
import Derived.Maps.Views
import Derived.StringKeys
namespace Go.Proofs.Ytcdhgpodoigddaa
open Go.RowKit Go.Maps Go.Proofs.YtcdhgpodoigddaaW.PrintWords Go.Proofs.YtcdhgpodoigddaaW.PrintLast Go.Proofs.YtcdhgpodoigddaaW.PrintMore
set_option linter.unusedVariables false
theorem md_bound (a m : Int) (hm : 0 < m) (hm2 : m ≤ 1000) : 0 ≤ wrap64 ((IntKind.u64.wrap a).tmod m) ∧ wrap64 ((IntKind.u64.wrap a).tmod m) < m := by
  have hu : 0 ≤ IntKind.u64.wrap a := by rw [IntKind.wrap_u64]; omega
  generalize IntKind.u64.wrap a = u at hu
  rw [Int.tmod_eq_emod_of_nonneg hu]
  have h1 := Int.emod_nonneg u (by omega : m ≠ 0)
  have h2 := Int.emod_lt_of_pos u hm
  generalize u % m = z at h1 h2
  unfold wrap64
  omega
/-- The key's bytes: 32 of the message, 3 of the stamp. -/
def keyNums (p : List Int × Int) : List Int := p.1 ++ [p.2 % 256, (p.2 / 256) % 256, (p.2 / 65536) % 256]
def KeyOk (p : List Int × Int) : Prop := p.1.length = 32 ∧ ByteL p.1 ∧ 0 ≤ p.2 ∧ p.2 < 16777216
theorem keyNums_bytes {p : List Int × Int} (h : KeyOk p) : ByteL (keyNums p) := fun x hx => by
  rcases List.mem_append.1 hx with q | q
  · exact h.2.1 x q
  · simp only [List.mem_cons, List.not_mem_nil, or_false] at q
    rcases q with rfl | rfl | rfl <;> omega
theorem keyNums_inj {p q : List Int × Int} (hp : KeyOk p) (hq : KeyOk q) (h : keyNums p = keyNums q) : p = q := by
  obtain ⟨e, s⟩ := p
  obtain ⟨e', s'⟩ := q
  unfold keyNums at h
  simp only at h
  have h1 := List.append_inj h (by rw [hp.1, hq.1])
  obtain ⟨h2, h3⟩ := h1
  have g1 := hp.2.2
  have g2 := hq.2.2
  simp only [List.cons.injEq, and_true] at h3 g1 g2
  obtain ⟨a1, a2, a3⟩ := h3
  have : s = s' := by omega
  rw [h2, this]
def keyLit (p : List Int × Int) : Lit := .string (strOfNums (keyNums p)).data.toList
theorem keyLit_inj {p q : List Int × Int} (hp : KeyOk p) (hq : KeyOk q) (h : keyLit p = keyLit q) : p = q := by
  unfold keyLit at h
  injection h with h
  rw [strOfNums_data, strOfNums_data] at h
  exact keyNums_inj hp hq (data_inj _ _ (keyNums_bytes hp) (keyNums_bytes hq) h)
theorem keyNums_length (p : List Int × Int) (h : p.1.length = 32) : (keyNums p).length = 35 := by unfold keyNums; rw [List.length_append, h]; rfl
theorem keyed9 : Keyed Try.prog 9 := string_keyed Try.underlying9
theorem zero3 (w : World) : (zeroValue 3).run Try.prog w = .ok (.int .i64 0) w := Try.zeroValue3 w
theorem keyOf9 (p : List Int × Int) (h : p.1.length = 32) : Go.keyOf Try.prog 9 (.string (strOfNums (keyNums p))) = some (keyLit p) :=
  Go.WideMaps.keyOf_string_mk Try.underlying9 (by rw [strOfNums_size, keyNums_length p h]; decide)
/-- The map in block B: of what was taken 1, of all else 0. -/
def OwnsM (wr : World) (B : Nat) (m : Nat) (acc : List (List Int × Int)) : Prop :=
  (∀ p ∈ acc, KeyOk p) ∧ ∃ D : DataW Unit, wr.ownsMap Try.prog 9 (plainElem Try.prog 3) B m D ∧ ∀ p, KeyOk p → D.atKey (keyLit p) (.lit (.int .i64 0)) = .lit (.int .i64 (if p ∈ acc then 1 else 0))
theorem ownsM_new (w : World) : OwnsM (w.alloc (.map #[] 0)) w.heap.size 0 [] :=
  ⟨fun p hp => by simp at hp, _, World.ownsMap_made _ _ _ _, fun p _ => by simp [DataW.atKey]⟩
theorem ownsM_below {w w1 : World} {B m : Nat} {acc : List (List Int × Int)} (h : OwnsM w B m acc) (hb : Below w.heap.size w w1) : OwnsM w1 B m acc := by
  obtain ⟨h1, D, h2, h3⟩ := h
  exact ⟨h1, D, h2.kept (grown_of_below hb none) (by simp), h3⟩
theorem ownsM_mod {w w1 : World} {S : Nat → Prop} {B m : Nat} {acc : List (List Int × Int)} (h : OwnsM w B m acc) (hm : Mod S w w1) (hS : ¬ S B) : OwnsM w1 B m acc := by
  obtain ⟨h1, D, h2, h3⟩ := h
  refine ⟨h1, D, ?_, h3⟩
  obtain ⟨es, clock, hb, r⟩ := h2
  exact ⟨es, clock, (hm.block _ (blk_lt hb) hS).trans hb, r⟩
theorem ownsM_mono {w : World} {B m m' : Nat} {acc : List (List Int × Int)} (h : OwnsM w B m acc) (hm : m ≤ m') : OwnsM w B m' acc := by
  obtain ⟨h1, D, h2, h3⟩ := h
  exact ⟨h1, D, h2.mono hm, h3⟩
/-- The map behind a store at a key that was not there. -/
theorem ownsM_put {w1 : World} {B m : Nat} {acc : List (List Int × Int)} {D : DataW Unit} {p : List Int × Int} (hacc : ∀ q ∈ acc, KeyOk q) (hp : KeyOk p) (hD : IsMap D) (h3 : ∀ q, KeyOk q → D.atKey (keyLit q) (.lit (.int .i64 0)) = .lit (.int .i64 (if q ∈ acc then 1 else 0)))
    (ho : w1.ownsMap Try.prog 9 (plainElem Try.prog 3) B m (D.put (keyLit p) (.lit (.int .i64 1)))) : OwnsM w1 B m (p :: acc) := by
  refine ⟨fun q hq => ?_, _, ho, fun q hq => ?_⟩
  · rcases List.mem_cons.1 hq with rfl | hq
    · exact hp
    · exact hacc q hq
  · by_cases he : q = p
    · subst he
      rw [atKey_put_same hD (by simp [WideAt.IsKeyLit, keyLit])]
      simp
    · rw [atKey_put_other (fun q' => he (keyLit_inj hq hp q')), h3 q hq]
      simp [he]
end Go.Proofs.Ytcdhgpodoigddaa
