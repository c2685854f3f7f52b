/-
  What Check answers, in plain Lean; bytes and strings.
-/
import Derived.Test.YtcdhgpodoigddaaP75
namespace Go.Proofs.Ytcdhgpodoigddaa
open Go.RowKit Go.Proofs.YtcdhgpodoigddaaW.PrintWords
set_option linter.unusedVariables false
structure Fil.Fit (f : Fil) : Prop where
  win0 : 0 ≤ f.win
  win1 : f.win ≤ 1099511627776
  since0 : 0 ≤ f.since
  since1 : f.since ≤ 2199023255552
  most1 : f.most ≤ 256
  len : (f.l.length : Int) ≤ 256
def goodB (now stamp : Int) (n : Nat) : Bool := (now == cutT now) && (stamp == cutT stamp) && n == 32
def lateB (f : Fil) (now stamp : Int) : Bool := decide (stamp < now - f.win) || decide (now + f.win < stamp) || decide (stamp ≤ f.since)
/-- What Check answers, and what the filter is then. -/
def Fil.young (f : Fil) (now : Int) : List Msg := f.l.filter fun x => !oldB now f.win x
def Fil.check (f : Fil) (now stamp : Int) (e : List Int) : Int × Fil :=
  if goodB now stamp e.length = false then (1, f) else
  if lateB f now stamp = true then (8, { f with l := f.young now }) else
  if ((f.young now).any fun x => x.e == e) = true then (8, { f with l := f.young now }) else
  if f.most ≤ (f.young now).length then (7, { f with l := f.young now }) else
  if h : e.length = 32 then (0, { f with l := f.young now ++ [⟨e, stamp, h⟩] }) else (1, f)
theorem good_cases {now stamp : Int} {n : Nat} (h : goodB now stamp n = false) : now ≠ cutT now ∨ (now = cutT now ∧ stamp ≠ cutT stamp) ∨ (now = cutT now ∧ stamp = cutT stamp ∧ n ≠ 32) := by
  unfold goodB at h
  by_cases h1 : now = cutT now
  · by_cases h2 : stamp = cutT stamp
    · refine .inr (.inr ⟨h1, h2, ?_⟩)
      simpa [← h1, ← h2] using h
    · exact .inr (.inl ⟨h1, h2⟩)
  · exact .inl h1
def ByteL (l : List Int) : Prop := ∀ x ∈ l, 0 ≤ x ∧ x ≤ 255
theorem data_inj : ∀ (a b : List Int), ByteL a → ByteL b → (a.map fun n => UInt8.ofNat n.toNat) = (b.map fun n => UInt8.ofNat n.toNat) → a = b
  | [], [], _, _, _ => rfl
  | [], _ :: _, _, _, h => by simp at h
  | _ :: _, [], _, _, h => by simp at h
  | x :: a, y :: b, ha, hb, h => by
    simp only [List.map_cons, List.cons.injEq] at h
    obtain ⟨h1, h2⟩ := h
    have hx := ha x (by simp)
    have hy := hb y (by simp)
    have := congrArg UInt8.toNat h1
    simp at this
    rw [data_inj a b (fun z hz => ha z (by simp [hz])) (fun z hz => hb z (by simp [hz])) h2]
    congr 1
    omega
theorem str_toList (s : ByteArray) : s.toList = s.data.toList := ByteArray.toList_eq s
theorem str_eq (a b : List Int) (ha : ByteL a) (hb : ByteL b) : ((strOfNums a).toList == (strOfNums b).toList) = (a == b) := by
  rw [str_toList, str_toList, strOfNums_data, strOfNums_data]
  by_cases h : a = b
  · subst h; simp
  · rw [beq_eq_false_iff_ne.2 h, beq_eq_false_iff_ne]
    exact fun q => h (data_inj a b ha hb q)
end Go.Proofs.Ytcdhgpodoigddaa
