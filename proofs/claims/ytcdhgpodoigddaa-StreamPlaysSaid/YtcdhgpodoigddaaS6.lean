/-
  Frames handed back; against.
-/
import Derived.Test.YtcdhgpodoigddaaS5
namespace Go.Proofs.Ytcdhgpodoigddaa
open Go.RowKit Go.Proofs.YtcdhgpodoigddaaW.PrintWords Go.Proofs.YtcdhgpodoigddaaW.PrintLast Go.Proofs.YtcdhgpodoigddaaW.PrintMore
set_option linter.unusedVariables false
attribute [local go_sem] max2_max min2_min max_two min_two

def resetD (id code : Int) : S52 := ⟨5, id, code, 0, z50, []⟩
abbrev VF (w : World) (ok : Nat → Prop) (v : Value) (fs : List S52) : Prop := Kd.V k52 52 w 0 ok v fs
theorem FK_frame (W : World) (ok : Nat → Prop) (a b c d : Int) : Kd.FK k52 W ok ⟨a, b, c, d, z50, []⟩ [.int .i64 a, .int .i64 b, .int .i64 c, .int .i64 d, .int .i64 0, .slice none 0 0, .string ⟨#[]⟩, .int .i64 0, .slice none 0 0] :=
  k52_mkF W ok ⟨a, b, c, d, z50, []⟩ (A5 := none) (c5 := 0) (Nat.le_refl _) (Kd.F_nil _ _ _) (A8 := none) (c8 := 0) (Nat.le_refl _) (Kd.F_nil _ _ _)
/-- A row of one frame, literally made. -/
theorem VF_lit1 {w : World} {okp : Nat → Prop} {x : S52} {cs : List Value} (h : Kd.FK k52 w okp x cs) : VF (w.alloc (.cells cs.toArray 52)) (fun k => (okp k ∧ k < w.heap.size) ∨ k = w.heap.size) (.slice (some ⟨w.heap.size, 0, none⟩) 1 1) [x] := by
  refine ⟨_, _, rfl, Nat.le_refl _, fun W' hW => ?_⟩
  have hb : W'.heap[w.heap.size]? = some (.cells cs.toArray 52 (0, 0)) := (hW _ (.inr rfl) (by simp)).trans (heap_alloc_new w _)
  refine ⟨rfl, by simp, fun _ => ⟨_, rfl, fun j p hj => ?_⟩⟩
  match j, hj with
  | 0, hj =>
    simp at hj; subst hj
    have hl : cs.length = 9 := k52.K_len (Kd.FK_now h)
    refine ⟨cs, hl, h W' (fun k hk hlt => (hW k (.inl ⟨hk, hlt⟩) (by simp; omega)).trans (Below.heap_alloc w _ k hlt)), fun i u hu => ?_⟩
    rw [add_plain, blk_cell hb]
    simpa using hu

theorem against_p {ok : Nat → Prop} (g : Nat) (s : St) (w : World) (h : IsStr w ok g s) :
    Calls Try.prog 94 #[.pointer (some ⟨g, 0, none⟩)] w fun e w' => ∃ A n c, e = .returned (.tuple #[.slice none 0 0, .slice A n c, .int .i64 2]) ∧ VF w' (fun k => w.heap.size ≤ k) (.slice A n c) [resetD s.id 1] ∧ IsStr w' ok g s.reset ∧ Mod ok w w' := by
  have HI := Lib.hid h
  clear h
  go_enter Try.func94, Try.ntmps94
  go_wp2_with (first | (go_at_call 88; refine (reset_p _ s _ _ HI.out).mono ?_; rintro e w' ⟨rfl, hi, hm⟩; unfold resetF))
  go_ret3
  refine ⟨_, _, _, rfl, Kd.V_mono (VF_lit1 (FK_frame w' (fun _ => False) 5 s.id 1 0)) (fun k hk => ?_), isStr_below hi ((Below.refl _ _).alloc (Nat.le_refl _) _), hm.alloc _⟩
  rcases hk with ⟨hk, _⟩ | hk
  · exact hk.elim
  · rw [hk]; exact hm.size
end Go.Proofs.Ytcdhgpodoigddaa
