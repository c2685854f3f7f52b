/-
  The calls on a stream that change its fields alone: End, reset, Break.
-/
import Derived.Test.YtcdhgpodoigddaaS1
namespace Go.Proofs.Ytcdhgpodoigddaa
open Go.RowKit Go.Proofs.YtcdhgpodoigddaaW.PrintWords Go.Proofs.YtcdhgpodoigddaaW.PrintLast Go.Proofs.YtcdhgpodoigddaaW.PrintMore
set_option linter.unusedVariables false
attribute [local go_sem] max2_max min2_min max_two min_two

theorem q_far {w : World} {ok : Nat → Prop} {g t : Nat} {cs : Array Value} {v : Value} {xs : List Int} (hq : kB.Q 5 w 0 ok v xs) (hb : w.heap[g]? = some (.cells cs t (0, 0))) (ht : t ≠ 5) (i : Nat) (u : Value) :
    kB.Q 5 (w.setCell ⟨g, i, none⟩ u) 0 ok v xs :=
  Kd.Q_mono (Kd.Q_far (p := ⟨g, i, none⟩) (Kd.Q_types hq hb (by intro q hq; simp [Kd.int, Kd.scalar] at hq; omega)) (fun _ hk => hk.2) u) (fun _ hk => hk.1)
theorem isStr_set2 {w : World} {ok : Nat → Prop} {g gm : Nat} {s' : St} {v' : Value} {cs : Array Value} {l : Int}
    (hb : w.heap[g]? = some (.cells cs 133 (0, 0))) (hm : w.heap[gm]? = some (.cells #[.int .i64 s'.left] 172 (0, 0))) (okg : ok g) (okm : ok gm)
    (i : Nat) (u : Value) (hq : kB.Q 5 (w.setCell ⟨g, i, none⟩ u) 0 ok v' s'.wait)
    (hcs : cs.setIfInBounds i u = #[.int .i64 s'.id, .pointer (some ⟨gm, 0, none⟩), .int .i64 s'.others, v', .bool s'.ended, .bool s'.told, .bool s'.over, .bool s'.cut]) :
    IsStr (w.setCell ⟨g, i, none⟩ u) ok g s' :=
  ⟨gm, v', by rw [blk_set hb i u, hcs], blk_far hm (p := ⟨g, i, none⟩) (blk_ne hm hb (by decide)) u, hq, okg, okm⟩
theorem isRef_set2 {w : World} {ok : Nat → Prop} {g gm : Nat} {s' : St} {v' : Value} {cs : Array Value} {l : Int}
    (hb : w.heap[g]? = some (.cells cs 67 (0, 0))) (hm : w.heap[gm]? = some (.cells #[.int .i64 s'.left] 174 (0, 0))) (okg : ok g) (okm : ok gm)
    (i : Nat) (u : Value) (hq : kB.Q 5 (w.setCell ⟨g, i, none⟩ u) 0 ok v' s'.wait)
    (hcs : cs.setIfInBounds i u = #[.int .i64 s'.id, .int .i64 s'.others, .pointer (some ⟨gm, 0, none⟩), v', .bool s'.ended, .bool s'.told, .bool s'.over, .bool s'.cut]) :
    IsRef (w.setCell ⟨g, i, none⟩ u) ok g s' :=
  ⟨gm, v', by rw [blk_set hb i u, hcs], blk_far hm (p := ⟨g, i, none⟩) (blk_ne hm hb (by decide)) u, hq, okg, okm⟩

def St.endIt (s : St) : St := if s.shut then s else { s with ended := true }
theorem end_p {ok : Nat → Prop} (g : Nat) (s : St) (w : World) (h : IsStr w ok g s) :
    Calls Try.prog 30 #[.pointer (some ⟨g, 0, none⟩)] w fun e w' => e = .returned (.bool (!s.shut)) ∧ IsStr w' ok g s.endIt ∧ Mod ok w w' := by
  have h0 := h
  obtain ⟨gm, v, hb, hm, hq, okg, okm⟩ := h
  have hN : s.shut = false → IsStr (w.setCell ⟨g, 4, none⟩ (.bool true)) ok g s.endIt := fun hs => by
    unfold St.endIt; rw [hs]
    exact isStr_set2 (s' := { s with ended := true }) (l := 0) hb hm okg okm 4 _ (q_far hq hb (by decide) _ _) (by simp)
  have hM : Mod ok w (w.setCell ⟨g, 4, none⟩ (.bool true)) := (Mod.refl ok w).setCell (.inl okg) _
  have hE : s.shut = true → s.endIt = s := fun hs => by unfold St.endIt; rw [hs]; rfl
  obtain ⟨c0, c1, c2, c3, c4, c5, c6, c7⟩ := blk8 hb
  have f4 := blk_frozen hb 4
  have HI := Lib.hid h0
  clear h0 hb c0 c1 c2 c3 c5 c6 c7 hm hq
  rcases hs : s.shut with _ | _
  · have HN := Lib.hid (hN hs)
    have HS := Lib.hid hs
    clear hN hE hs
    go_enter Try.func30, Try.ntmps30
    go_wp2_with (go_at_call 86; refine (closed_p (ok := ok) _ s _ HI.out).mono ?_; rw [HS.out]; rintro e w' ⟨rfl, rfl⟩)
    go_ret
    exact ⟨rfl, HN.out, hM⟩
  · have HE := Lib.hid (hE hs)
    have HS := Lib.hid hs
    clear hN hE hs
    go_enter Try.func30, Try.ntmps30
    go_wp2_with (go_at_call 86; refine (closed_p (ok := ok) _ s _ HI.out).mono ?_; rw [HS.out]; rintro e w' ⟨rfl, rfl⟩)
    go_ret
    exact ⟨rfl, by rw [HE.out]; exact HI.out, Mod.refl _ _⟩
theorem end_r {ok : Nat → Prop} (g : Nat) (s : St) (w : World) (h : IsRef w ok g s) :
    Calls Try.prog 31 #[.pointer (some ⟨g, 0, none⟩)] w fun e w' => e = .returned (.bool (!s.shut)) ∧ IsRef w' ok g s.endIt ∧ Mod ok w w' := by
  have h0 := h
  obtain ⟨gm, v, hb, hm, hq, okg, okm⟩ := h
  have hN : s.shut = false → IsRef (w.setCell ⟨g, 4, none⟩ (.bool true)) ok g s.endIt := fun hs => by
    unfold St.endIt; rw [hs]
    exact isRef_set2 (s' := { s with ended := true }) (l := 0) hb hm okg okm 4 _ (q_far hq hb (by decide) _ _) (by simp)
  have hM : Mod ok w (w.setCell ⟨g, 4, none⟩ (.bool true)) := (Mod.refl ok w).setCell (.inl okg) _
  have hE : s.shut = true → s.endIt = s := fun hs => by unfold St.endIt; rw [hs]; rfl
  obtain ⟨c0, c1, c2, c3, c4, c5, c6, c7⟩ := blk8 hb
  have f4 := blk_frozen hb 4
  have HI := Lib.hid h0
  have hsh : s.shut = (s.ended || s.cut) := rfl
  clear h0 hb c0 c1 c2 c3 c5 c6 hm hq
  rcases he : s.ended with _ | _ <;> rcases hc : s.cut with _ | _ <;> rw [he] at c4 <;> rw [hc] at c7 <;> rw [he, hc] at hsh
  · have HN := Lib.hid (hN hsh)
    have HS := Lib.hid hsh
    clear hN hE hsh he hc
    go_enter Try.func31, Try.ntmps31
    go_wp2
    go_ret
    exact ⟨by rw [HS.out]; rfl, HN.out, hM⟩
  all_goals
    have HE := Lib.hid (hE hsh)
    have HS := Lib.hid hsh
    clear hN hE hsh he hc
    go_enter Try.func31, Try.ntmps31
    go_wp2
    go_ret
    exact ⟨by rw [HS.out]; rfl, by rw [HE.out]; exact HI.out, Mod.refl _ _⟩

/-! ### reset, Break -/
def St.reset (s : St) : St := { s with cut := true, wait := [] }
def resetF (id code : Int) : Value := .agg #[.int .i64 5, .int .i64 id, .int .i64 code, .int .i64 0, .int .i64 0, .slice none 0 0, .string ⟨#[]⟩, .int .i64 0, .slice none 0 0]
theorem isStr_mod {w w' : World} {ok S : Nat → Prop} {g : Nat} {s : St} (h : IsStr w ok g s) (hM : Mod S w w') (hn : ∀ k, ok k → ¬ S k) : IsStr w' ok g s := by
  obtain ⟨gm, v, hb, hm, hq, okg, okm⟩ := h
  exact ⟨gm, v, hM.blk hb (hn _ okg), hM.blk hm (hn _ okm), Kd.Q_kept hq hM.kept hn, okg, okm⟩
theorem isRef_mod {w w' : World} {ok S : Nat → Prop} {g : Nat} {s : St} (h : IsRef w ok g s) (hM : Mod S w w') (hn : ∀ k, ok k → ¬ S k) : IsRef w' ok g s := by
  obtain ⟨gm, v, hb, hm, hq, okg, okm⟩ := h
  exact ⟨gm, v, hM.blk hb (hn _ okg), hM.blk hm (hn _ okm), Kd.Q_kept hq hM.kept hn, okg, okm⟩
theorem isStr_below {w w' : World} {ok : Nat → Prop} {g : Nat} {s : St} (h : IsStr w ok g s) (hb : Below w.heap.size w w') : IsStr w' ok g s := isStr_mod h (Mod.of_below hb (fun _ => False)) (fun _ _ q => q)
theorem isRef_below {w w' : World} {ok : Nat → Prop} {g : Nat} {s : St} (h : IsRef w ok g s) (hb : Below w.heap.size w w') : IsRef w' ok g s := isRef_mod h (Mod.of_below hb (fun _ => False)) (fun _ _ q => q)
theorem isStr_mono {w : World} {ok ok' : Nat → Prop} {g : Nat} {s : St} (h : IsStr w ok g s) (ho : ∀ k, ok k → ok' k) : IsStr w ok' g s := by
  obtain ⟨gm, v, hb, hm, hq, okg, okm⟩ := h
  exact ⟨gm, v, hb, hm, Kd.Q_mono hq ho, ho _ okg, ho _ okm⟩
theorem isRef_mono {w : World} {ok ok' : Nat → Prop} {g : Nat} {s : St} (h : IsRef w ok g s) (ho : ∀ k, ok k → ok' k) : IsRef w ok' g s := by
  obtain ⟨gm, v, hb, hm, hq, okg, okm⟩ := h
  exact ⟨gm, v, hb, hm, Kd.Q_mono hq ho, ho _ okg, ho _ okm⟩
theorem isStr_bound {w : World} {ok : Nat → Prop} {g : Nat} {s : St} (h : IsStr w ok g s) : IsStr w (fun k => ok k ∧ k < w.heap.size) g s := by
  obtain ⟨gm, v, hb, hm, hq, okg, okm⟩ := h
  exact ⟨gm, v, hb, hm, Kd.Q_mono (Kd.Q_bound hq) (fun k hk => ⟨hk.1, hk.2.2.1⟩), ⟨okg, blk_lt hb⟩, ⟨okm, blk_lt hm⟩⟩
theorem isRef_bound {w : World} {ok : Nat → Prop} {g : Nat} {s : St} (h : IsRef w ok g s) : IsRef w (fun k => ok k ∧ k < w.heap.size) g s := by
  obtain ⟨gm, v, hb, hm, hq, okg, okm⟩ := h
  exact ⟨gm, v, hb, hm, Kd.Q_mono (Kd.Q_bound hq) (fun k hk => ⟨hk.1, hk.2.2.1⟩), ⟨okg, blk_lt hb⟩, ⟨okm, blk_lt hm⟩⟩
theorem reset_p {ok : Nat → Prop} (g : Nat) (s : St) (code : Int) (w : World) (h : IsStr w ok g s) :
    Calls Try.prog 88 #[.pointer (some ⟨g, 0, none⟩), .int .i64 code] w fun e w' => e = .returned (resetF s.id code) ∧ IsStr w' ok g s.reset ∧ Mod ok w w' := by
  obtain ⟨gm, v, hb, hm, hq, okg, okm⟩ := h
  obtain ⟨c0, c1, c2, c3, c4, c5, c6, c7⟩ := blk8 hb
  have f7 := blk_frozen hb 7
  have f3 := blk_frozen hb 3
  have hlt := blk_lt hb
  have HB := Lib.hid hb
  clear hb c1 c2 c4 c5 c6 
  go_enter Try.func88, Try.ntmps88
  go_wp2
  have hS1 : IsStr ((w.setCell ⟨g, 7, none⟩ (.bool true)).setCell ⟨g, 3, none⟩ (.slice none 0 0)) ok g s.reset :=
    isStr_set2 (s' := s.reset) (l := 0) (blk_set HB.out 7 _) (blk_far hm (p := ⟨g, 7, none⟩) (blk_ne hm HB.out (by decide)) _) okg okm 3 _ (Kd.Q_of_R (Kd.R_nil _ _ _ _ _)) (by simp [St.reset])
  refine bodyPost_ret (v := resetF s.id code) (by simp [resetF, results, Try.results88, go_sem]) rfl ⟨rfl, isStr_below hS1 ((Below.refl _ _).alloc (Nat.le_refl _) _), (((Mod.refl ok w).setCell (.inl okg) _).setCell (.inl okg) _).alloc _⟩
end Go.Proofs.Ytcdhgpodoigddaa
