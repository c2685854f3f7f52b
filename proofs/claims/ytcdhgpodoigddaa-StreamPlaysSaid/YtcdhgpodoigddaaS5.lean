/-
  reset and Break on a stream of the reference, Break on a stream of the program, against.
-/
import Derived.Test.YtcdhgpodoigddaaS4
namespace Go.Proofs.Ytcdhgpodoigddaa
open Go.RowKit Go.Proofs.YtcdhgpodoigddaaW.PrintWords Go.Proofs.YtcdhgpodoigddaaW.PrintLast Go.Proofs.YtcdhgpodoigddaaW.PrintMore
set_option linter.unusedVariables false
attribute [local go_sem] max2_max min2_min max_two min_two

theorem reset_r {ok : Nat → Prop} (g : Nat) (s : St) (code : Int) (w : World) (h : IsRef w ok g s) :
    Calls Try.prog 89 #[.pointer (some ⟨g, 0, none⟩), .int .i64 code] w fun e w' => e = .returned (resetF s.id code) ∧ IsRef w' ok g s.reset ∧ Mod ok w w' := by
  obtain ⟨gm, v, hb, hm, hq, okg, okm⟩ := h
  obtain ⟨c0, c1, c2, c3, c4, c5, c6, c7⟩ := blk8 hb
  have f7 := blk_frozen hb 7
  have f3 := blk_frozen hb 3
  have hlt := blk_lt hb
  have HB := Lib.hid hb
  clear hb c1 c2 c4 c5 c6 
  go_enter Try.func89, Try.ntmps89
  go_wp2
  have hS1 : IsRef ((w.setCell ⟨g, 7, none⟩ (.bool true)).setCell ⟨g, 3, none⟩ (.slice none 0 0)) ok g s.reset :=
    isRef_set2 (s' := s.reset) (l := 0) (blk_set HB.out 7 _) (blk_far hm (p := ⟨g, 7, none⟩) (blk_ne hm HB.out (by decide)) _) okg okm 3 _ (Kd.Q_of_R (Kd.R_nil _ _ _ _ _)) (by simp [St.reset])
  refine bodyPost_ret (v := resetF s.id code) (by simp [resetF, results, Try.results89, go_sem]) rfl ⟨rfl, isRef_below hS1 ((Below.refl _ _).alloc (Nat.le_refl _) _), (((Mod.refl ok w).setCell (.inl okg) _).setCell (.inl okg) _).alloc _⟩

def zeroF : Value := .agg #[.int .i64 0, .int .i64 0, .int .i64 0, .int .i64 0, .int .i64 0, .slice none 0 0, .string ⟨#[]⟩, .int .i64 0, .slice none 0 0]
def St.breakOk (s : St) (code : Int) : Bool := !s.done && (decide (0 ≤ code) && decide (code ≤ 255))
def St.breakF (s : St) (code : Int) : Value := if s.breakOk code then resetF s.id code else zeroF
def St.break_ (s : St) (code : Int) : St := if s.breakOk code then s.reset else s
theorem breakOk_cases (s : St) (code : Int) : (s.breakOk code = true ∧ s.done = false ∧ 0 ≤ code ∧ code ≤ 255) ∨ (s.breakOk code = false ∧ s.done = true) ∨ (s.breakOk code = false ∧ s.done = false ∧ code < 0) ∨ (s.breakOk code = false ∧ s.done = false ∧ 0 ≤ code ∧ 255 < code) := by
  unfold St.breakOk
  cases s.done
  · by_cases h0 : 0 ≤ code
    · by_cases h1 : code ≤ 255
      · left; simp [h0, h1]
      · right; right; right; simp [h0, h1]; omega
    · right; right; left; simp [h0]; omega
  · right; left; simp
theorem blk9 {w : World} {g t : Nat} {a0 a1 a2 a3 a4 a5 a6 a7 a8 : Value} (h : w.heap[g]? = some (.cells #[a0, a1, a2, a3, a4, a5, a6, a7, a8] t (0, 0))) :
    (w.cell? ⟨g, 0, none⟩ = some a0 ∧ w.cell? ⟨g, 1, none⟩ = some a1 ∧ w.cell? ⟨g, 2, none⟩ = some a2 ∧ w.cell? ⟨g, 3, none⟩ = some a3 ∧ w.cell? ⟨g, 4, none⟩ = some a4 ∧ w.cell? ⟨g, 5, none⟩ = some a5 ∧ w.cell? ⟨g, 6, none⟩ = some a6 ∧ w.cell? ⟨g, 7, none⟩ = some a7 ∧ w.cell? ⟨g, 8, none⟩ = some a8) ∧ ∀ i, w.frozen? ⟨g, i, none⟩ = false :=
  ⟨⟨(blk_cell h 0).trans rfl, (blk_cell h 1).trans rfl, (blk_cell h 2).trans rfl, (blk_cell h 3).trans rfl, (blk_cell h 4).trans rfl, (blk_cell h 5).trans rfl, (blk_cell h 6).trans rfl, (blk_cell h 7).trans rfl, (blk_cell h 8).trans rfl⟩, blk_frozen h⟩
/-- A frame's cells stored into a block of the call's own. -/
theorem set9 {w : World} {g t : Nat} {a0 a1 a2 a3 a4 a5 a6 a7 a8 : Value} (h : w.heap[g]? = some (.cells #[a0, a1, a2, a3, a4, a5, a6, a7, a8] t (0, 0))) (b0 b1 b2 b3 b4 b5 b6 b7 b8 : Value) :
    (((((((((w.setCell ⟨g, 0, none⟩ b0).setCell ⟨g, 1, none⟩ b1).setCell ⟨g, 2, none⟩ b2).setCell ⟨g, 3, none⟩ b3).setCell ⟨g, 4, none⟩ b4).setCell ⟨g, 5, none⟩ b5).setCell ⟨g, 6, none⟩ b6).setCell ⟨g, 7, none⟩ b7).setCell ⟨g, 8, none⟩ b8).heap[g]? = some (.cells #[b0, b1, b2, b3, b4, b5, b6, b7, b8] t (0, 0)) := by
  have h0 : (w.setCell ⟨g, 0, none⟩ b0).heap[g]? = some (.cells #[b0, a1, a2, a3, a4, a5, a6, a7, a8] t (0, 0)) := by have q := blk_set h 0 b0; simpa using q
  have h1 : ((w.setCell ⟨g, 0, none⟩ b0).setCell ⟨g, 1, none⟩ b1).heap[g]? = some (.cells #[b0, b1, a2, a3, a4, a5, a6, a7, a8] t (0, 0)) := by have q := blk_set h0 1 b1; simpa using q
  have h2 : (((w.setCell ⟨g, 0, none⟩ b0).setCell ⟨g, 1, none⟩ b1).setCell ⟨g, 2, none⟩ b2).heap[g]? = some (.cells #[b0, b1, b2, a3, a4, a5, a6, a7, a8] t (0, 0)) := by have q := blk_set h1 2 b2; simpa using q
  have h3 : ((((w.setCell ⟨g, 0, none⟩ b0).setCell ⟨g, 1, none⟩ b1).setCell ⟨g, 2, none⟩ b2).setCell ⟨g, 3, none⟩ b3).heap[g]? = some (.cells #[b0, b1, b2, b3, a4, a5, a6, a7, a8] t (0, 0)) := by have q := blk_set h2 3 b3; simpa using q
  have h4 : (((((w.setCell ⟨g, 0, none⟩ b0).setCell ⟨g, 1, none⟩ b1).setCell ⟨g, 2, none⟩ b2).setCell ⟨g, 3, none⟩ b3).setCell ⟨g, 4, none⟩ b4).heap[g]? = some (.cells #[b0, b1, b2, b3, b4, a5, a6, a7, a8] t (0, 0)) := by have q := blk_set h3 4 b4; simpa using q
  have h5 : ((((((w.setCell ⟨g, 0, none⟩ b0).setCell ⟨g, 1, none⟩ b1).setCell ⟨g, 2, none⟩ b2).setCell ⟨g, 3, none⟩ b3).setCell ⟨g, 4, none⟩ b4).setCell ⟨g, 5, none⟩ b5).heap[g]? = some (.cells #[b0, b1, b2, b3, b4, b5, a6, a7, a8] t (0, 0)) := by have q := blk_set h4 5 b5; simpa using q
  have h6 : (((((((w.setCell ⟨g, 0, none⟩ b0).setCell ⟨g, 1, none⟩ b1).setCell ⟨g, 2, none⟩ b2).setCell ⟨g, 3, none⟩ b3).setCell ⟨g, 4, none⟩ b4).setCell ⟨g, 5, none⟩ b5).setCell ⟨g, 6, none⟩ b6).heap[g]? = some (.cells #[b0, b1, b2, b3, b4, b5, b6, a7, a8] t (0, 0)) := by have q := blk_set h5 6 b6; simpa using q
  have h7 : ((((((((w.setCell ⟨g, 0, none⟩ b0).setCell ⟨g, 1, none⟩ b1).setCell ⟨g, 2, none⟩ b2).setCell ⟨g, 3, none⟩ b3).setCell ⟨g, 4, none⟩ b4).setCell ⟨g, 5, none⟩ b5).setCell ⟨g, 6, none⟩ b6).setCell ⟨g, 7, none⟩ b7).heap[g]? = some (.cells #[b0, b1, b2, b3, b4, b5, b6, b7, a8] t (0, 0)) := by have q := blk_set h6 7 b7; simpa using q
  have h8 : (((((((((w.setCell ⟨g, 0, none⟩ b0).setCell ⟨g, 1, none⟩ b1).setCell ⟨g, 2, none⟩ b2).setCell ⟨g, 3, none⟩ b3).setCell ⟨g, 4, none⟩ b4).setCell ⟨g, 5, none⟩ b5).setCell ⟨g, 6, none⟩ b6).setCell ⟨g, 7, none⟩ b7).setCell ⟨g, 8, none⟩ b8).heap[g]? = some (.cells #[b0, b1, b2, b3, b4, b5, b6, b7, b8] t (0, 0)) := by have q := blk_set h7 8 b8; simpa using q
  exact h8
theorem mod9 {S : Nat → Prop} {w0 w : World} {g : Nat} (h : Mod S w0 w) (hg : S g ∨ w0.heap.size ≤ g) (b0 b1 b2 b3 b4 b5 b6 b7 b8 : Value) : Mod S w0 (((((((((w.setCell ⟨g, 0, none⟩ b0).setCell ⟨g, 1, none⟩ b1).setCell ⟨g, 2, none⟩ b2).setCell ⟨g, 3, none⟩ b3).setCell ⟨g, 4, none⟩ b4).setCell ⟨g, 5, none⟩ b5).setCell ⟨g, 6, none⟩ b6).setCell ⟨g, 7, none⟩ b7).setCell ⟨g, 8, none⟩ b8) :=
  ((((((((h.setCell (p := ⟨g, 0, none⟩) hg b0).setCell (p := ⟨g, 1, none⟩) hg b1).setCell (p := ⟨g, 2, none⟩) hg b2).setCell (p := ⟨g, 3, none⟩) hg b3).setCell (p := ⟨g, 4, none⟩) hg b4).setCell (p := ⟨g, 5, none⟩) hg b5).setCell (p := ⟨g, 6, none⟩) hg b6).setCell (p := ⟨g, 7, none⟩) hg b7).setCell (p := ⟨g, 8, none⟩) hg b8
set_option maxHeartbeats 400000 in
theorem break_p {ok : Nat → Prop} (g : Nat) (s : St) (code : Int) (w : World) (h : IsStr w ok g s) :
    Calls Try.prog 32 #[.pointer (some ⟨g, 0, none⟩), .int .i64 code] w fun e w' => e = .returned (.tuple #[s.breakF code, .bool (s.breakOk code)]) ∧ IsStr w' ok g (s.break_ code) ∧ Mod ok w w' := by
  have h1 := isStr_bound h
  have HA : ∀ o, Hid (IsStr (w.alloc o) (fun k => ok k ∧ k < w.heap.size) g s) := fun o => Lib.hid (isStr_below h1 ((Below.refl _ _).alloc (Nat.le_refl _) _))
  clear h h1
  unfold St.breakF St.break_
  rcases breakOk_cases s code with ⟨ho, hd, h0, h1⟩ | ⟨ho, hd⟩ | ⟨ho, hd, h0⟩ | ⟨ho, hd, h0, h1⟩
  · rw [ho, if_pos rfl, if_pos rfl]
    have HD := Lib.hid hd
    clear hd ho
    unfold resetF
    go_enter Try.func32, Try.ntmps32
    go_wp2_with (first | (go_at_call 40; refine (done_p _ s _ (HA _).out).mono ?_; rw [HD.out]; rintro e w' ⟨rfl, rfl⟩) | (go_at_call 88; refine (reset_p _ s _ _ (HA _).out).mono ?_; rintro e w' ⟨rfl, hi, hm⟩; have hbk := Mod.blk hm (heap_alloc_new w _) (by simp); obtain ⟨⟨d0, d1, d2, d3, d4, d5, d6, d7, d8⟩, df⟩ := blk9 hbk; have HBK := Lib.hid hbk; clear hbk; unfold resetF))
    refine bodyPost_ret (results_ct rfl _ _ w.heap.size 52 _ (0, 0) _ rfl (set9 HBK.out _ _ _ _ _ _ _ _ _) Try.underlying52 rfl (by kernel_rfl)) rfl ⟨rfl, ?_, ?_⟩
    · exact isStr_mono (isStr_mod hi (mod9 (Mod.refl (fun k => k = w.heap.size) w') (.inl rfl) _ _ _ _ _ _ _ _ _) (fun k hk => by omega)) (fun k hk => hk.1)
    · exact mod9 (((Mod.refl ok w).alloc _).andThen (hm.mono (S2 := ok) (fun k hk => hk.1)) (fun k hk => .inl hk)) (.inr (Nat.le_refl _)) _ _ _ _ _ _ _ _ _
  all_goals
    rw [ho]
    have HD := Lib.hid hd
    clear hd ho
    go_enter Try.func32, Try.ntmps32
    go_wp2_with (first | (go_at_call 40; refine (done_p _ s _ (HA _).out).mono ?_; rw [HD.out]; rintro e w' ⟨rfl, rfl⟩))
    refine bodyPost_ret (v := .tuple #[zeroF, .bool false]) (by simp [zeroF, results, Try.results32, go_sem]) rfl ⟨rfl, isStr_mono (HA _).out (fun k hk => hk.1), (Mod.refl ok w).alloc _⟩
set_option maxHeartbeats 400000 in
theorem break_r {ok : Nat → Prop} (g : Nat) (s : St) (code : Int) (w : World) (h : IsRef w ok g s) :
    Calls Try.prog 33 #[.pointer (some ⟨g, 0, none⟩), .int .i64 code] w fun e w' => e = .returned (.tuple #[s.breakF code, .bool (s.breakOk code)]) ∧ IsRef w' ok g (s.break_ code) ∧ Mod ok w w' := by
  have h1 := isRef_bound h
  have HA : ∀ o, Hid (IsRef (w.alloc o) (fun k => ok k ∧ k < w.heap.size) g s) := fun o => Lib.hid (isRef_below h1 ((Below.refl _ _).alloc (Nat.le_refl _) _))
  clear h h1
  unfold St.breakF St.break_
  rcases breakOk_cases s code with ⟨ho, hd, h0, h1⟩ | ⟨ho, hd⟩ | ⟨ho, hd, h0⟩ | ⟨ho, hd, h0, h1⟩
  · rw [ho, if_pos rfl, if_pos rfl]
    have HD := Lib.hid hd
    clear hd ho
    unfold resetF
    go_enter Try.func33, Try.ntmps33
    go_wp2_with (first | (go_at_call 41; refine (done_r _ s _ (HA _).out).mono ?_; rw [HD.out]; rintro e w' ⟨rfl, rfl⟩) | (go_at_call 89; refine (reset_r _ s _ _ (HA _).out).mono ?_; rintro e w' ⟨rfl, hi, hm⟩; have hbk := Mod.blk hm (heap_alloc_new w _) (by simp); obtain ⟨⟨d0, d1, d2, d3, d4, d5, d6, d7, d8⟩, df⟩ := blk9 hbk; have HBK := Lib.hid hbk; clear hbk; unfold resetF))
    refine bodyPost_ret (results_ct rfl _ _ w.heap.size 52 _ (0, 0) _ rfl (set9 HBK.out _ _ _ _ _ _ _ _ _) Try.underlying52 rfl (by kernel_rfl)) rfl ⟨rfl, ?_, ?_⟩
    · exact isRef_mono (isRef_mod hi (mod9 (Mod.refl (fun k => k = w.heap.size) w') (.inl rfl) _ _ _ _ _ _ _ _ _) (fun k hk => by omega)) (fun k hk => hk.1)
    · exact mod9 (((Mod.refl ok w).alloc _).andThen (hm.mono (S2 := ok) (fun k hk => hk.1)) (fun k hk => .inl hk)) (.inr (Nat.le_refl _)) _ _ _ _ _ _ _ _ _
  all_goals
    rw [ho]
    have HD := Lib.hid hd
    clear hd ho
    go_enter Try.func33, Try.ntmps33
    go_wp2_with (first | (go_at_call 41; refine (done_r _ s _ (HA _).out).mono ?_; rw [HD.out]; rintro e w' ⟨rfl, rfl⟩))
    refine bodyPost_ret (v := .tuple #[zeroF, .bool false]) (by simp [zeroF, results, Try.results33, go_sem]) rfl ⟨rfl, isRef_mono (HA _).out (fun k hk => hk.1), (Mod.refl ok w).alloc _⟩
end Go.Proofs.Ytcdhgpodoigddaa
