/-
  What a stream has to send, as plain lists.
-/
import Derived.Test.YtcdhgpodoigddaaS6
namespace Go.Proofs.Ytcdhgpodoigddaa
open Go.RowKit Go.Proofs.YtcdhgpodoigddaaW.PrintWords Go.Proofs.YtcdhgpodoigddaaW.PrintLast Go.Proofs.YtcdhgpodoigddaaW.PrintMore
set_option linter.unusedVariables false
def pieceN (l : Int) (b : List Int) : Nat := (max 0 (min (min (b.length : Int) 1000) l)).toNat
theorem pieceN_eq (l : Int) (b : List Int) : max 0 (min (min (b.length : Int) 1000) l) = (pieceN l b : Int) := by unfold pieceN; omega
theorem pieceN_eq' (l : Int) (b : List Int) : max 0 (min (min 1000 (b.length : Int)) l) = (pieceN l b : Int) := by unfold pieceN; omega
theorem pieceN_le (l : Int) (b : List Int) : pieceN l b ≤ b.length := by unfold pieceN; omega
theorem pieceN_left {l : Int} (b : List Int) (h : 0 ≤ l) : (pieceN l b : Int) ≤ l := by unfold pieceN; omega
theorem pieceN_most (l : Int) (b : List Int) : pieceN l b ≤ 1000 := by unfold pieceN; omega
def dataD (id : Int) (d : List Int) : S52 := ⟨3, id, 0, 0, z50, d⟩
def finD (id : Int) : S52 := ⟨4, id, 0, 0, z50, []⟩
def pieces (id l : Int) (b : List Int) : List S52 × Int × List Int :=
  if h : pieceN l b = 0 then ([], l, b) else
    (dataD id (b.take (pieceN l b)) :: (pieces id (l - pieceN l b) (b.drop (pieceN l b))).1, (pieces id (l - pieceN l b) (b.drop (pieceN l b))).2)
termination_by b.length
decreasing_by all_goals (rw [List.length_drop]; have := pieceN_le l b; omega)
theorem pieces_stop (id : Int) {l : Int} {b : List Int} (h : pieceN l b = 0) : pieces id l b = ([], l, b) := by rw [pieces]; simp [h]
theorem pieces_go (id : Int) {l : Int} {b : List Int} (h : pieceN l b ≠ 0) : pieces id l b = (dataD id (b.take (pieceN l b)) :: (pieces id (l - pieceN l b) (b.drop (pieceN l b))).1, (pieces id (l - pieceN l b) (b.drop (pieceN l b))).2) := by
  rw [pieces]; simp [h]
def St.sent (s : St) : St := { s with left := (pieces s.id s.left s.wait).2.1, wait := (pieces s.id s.left s.wait).2.2 }
def St.ends (s : St) : Bool := ((((s.sent.wait.length : Int) == 0) && s.ended) && !s.told)
def St.next (s : St) : List S52 × St :=
  if s.cut then ([], s) else
  if s.ends then ((pieces s.id s.left s.wait).1 ++ [finD s.id], { s.sent with told := true }) else ((pieces s.id s.left s.wait).1, s.sent)
theorem pieces_left (id : Int) : ∀ (n : Nat) (l : Int) (b : List Int), b.length ≤ n → 0 ≤ l → 0 ≤ (pieces id l b).2.1 ∧ (pieces id l b).2.1 ≤ l ∧ (pieces id l b).2.2.length ≤ b.length := by
  intro n
  induction n with
  | zero =>
    intro l b hb h0
    have : pieceN l b = 0 := by have := pieceN_le l b; omega
    rw [pieces_stop id this]
    exact ⟨h0, Int.le_refl _, Nat.le_refl _⟩
  | succ n ih =>
    intro l b hb h0
    by_cases h : pieceN l b = 0
    · rw [pieces_stop id h]
      exact ⟨h0, Int.le_refl _, Nat.le_refl _⟩
    · rw [pieces_go id h]
      have h1 := pieceN_left b h0
      have h2 := pieceN_le l b
      have := ih (l - pieceN l b) (b.drop (pieceN l b)) (by rw [List.length_drop]; omega) (by omega)
      rw [List.length_drop] at this
      exact ⟨this.1, Int.le_trans this.2.1 (by omega), Nat.le_trans this.2.2 (by omega)⟩
/-- What holds of a stream's numbers all along. -/
structure St.Fit (s : St) : Prop where
  left0 : 0 ≤ s.left
  left1 : s.left ≤ 65536
  wait1 : s.wait.length ≤ 65536
/-- Between two pieces: what was made, what is left. -/
def NextInv (Is : World → St → Prop) (ok : Nat → Prop) (s : St) (w : World) (k : Nat) (o : Value) (wr : World) : Prop :=
  ∃ (fs : List S52) (l : Int) (b : List Int), b.length = k ∧ 0 ≤ l ∧ l ≤ 65536 ∧ pieces s.id s.left s.wait = (fs ++ (pieces s.id l b).1, (pieces s.id l b).2) ∧
    Kd.N k52 52 wr w.heap.size (fun k => w.heap.size ≤ k) o fs ∧ Is wr { s with left := l, wait := b } ∧ Mod ok w wr ∧ fs.length + b.length ≤ 65536
theorem nextInv_step {id l : Int} {b : List Int} {fs : List S52} {r : List S52 × Int × List Int} (h : r = (fs ++ (pieces id l b).1, (pieces id l b).2)) (hn : pieceN l b ≠ 0) :
    r = ((fs ++ [dataD id (b.take (pieceN l b))]) ++ (pieces id (l - pieceN l b) (b.drop (pieceN l b))).1, (pieces id (l - pieceN l b) (b.drop (pieceN l b))).2) := by
  rw [h, pieces_go id hn]; simp
theorem info52 : (Try.prog.info? 52).map (fun i => (i.zero, i.size, i.bytes)) = some (some zeroF, 9, 112) := by kernel_rfl
def NextP (Is : World → (Nat → Prop) → Nat → St → Prop) (ok : Nat → Prop) (g : Nat) (s : St) (w : World) (e : Ending) (w' : World) : Prop :=
  ∃ B m d, e = .returned (.slice B m d) ∧ VF w' (fun k => w.heap.size ≤ k) (.slice B m d) s.next.1 ∧ Is w' (fun k => ok k ∨ w.heap.size ≤ k) g s.next.2 ∧ Mod ok w w'
end Go.Proofs.Ytcdhgpodoigddaa
