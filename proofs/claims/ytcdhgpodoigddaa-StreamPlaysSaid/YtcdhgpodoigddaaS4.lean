/-
  Send on a stream of the reference.
-/
import Derived.Test.YtcdhgpodoigddaaS3
namespace Go.Proofs.Ytcdhgpodoigddaa
open Go.RowKit Go.Proofs.YtcdhgpodoigddaaW.PrintWords Go.Proofs.YtcdhgpodoigddaaW.PrintLast Go.Proofs.YtcdhgpodoigddaaW.PrintMore
set_option linter.unusedVariables false
attribute [local go_sem] max2_max min2_min max_two min_two

theorem Q_form {w : World} {base : Nat} {ok : Nat → Prop} {v : Value} {xs : List Int} (h : kB.Q 5 w base ok v xs) : ∃ A n c, v = .slice A n c := by
  obtain ⟨A, c, rfl, _⟩ := Kd.Q_slice h
  exact ⟨_, _, _, rfl⟩
theorem Join_any (A : Option Addr) (n c : Nat) (xss : List (List Int)) (w : World) (hC : Kd.C (Kd.slice 5 kB) w A n xss) (hl : xss.flatten.length ≤ 140737488355328) :
    Calls Try.prog 87 #[.slice A n c] w fun e w' => ∃ A1 n1 c1, e = .returned (.slice A1 n1 c1) ∧ kB.Q 5 w' 0 (fun k => w.heap.size ≤ k) (.slice A1 n1 c1) xss.flatten ∧ Below w.heap.size w w' := by
  have HC := Lib.hid hC
  clear hC
  go_enter Try.func87, Try.ntmps87
  go_wp2_with (go_at_call 118; refine (join_any _ _ _ _ _ HC.out hl).mono ?_; rintro e w' ⟨v, rfl, hq, hb⟩; obtain ⟨A1, n1, c1, rfl⟩ := Q_form hq)
  go_ret
  exact ⟨_, _, _, rfl, ‹_›, ‹_›⟩
theorem C_lit2 {w : World} {A0 A1 : Option Addr} {c0 c1 : Nat} {a b : List Int} (l0 : a.length ≤ c0) (l1 : b.length ≤ c1) (h0 : kB.C w A0 a.length a) (h1 : kB.C w A1 b.length b) :
    Kd.C (Kd.slice 5 kB) (w.alloc (.cells #[.slice A0 a.length c0, .slice A1 b.length c1] 31)) (some ⟨w.heap.size, 0, none⟩) 2 [a, b] := by
  have hb := heap_alloc_new w (.cells #[.slice A0 a.length c0, .slice A1 b.length c1] 31)
  have hB : Below w.heap.size w (w.alloc (.cells #[.slice A0 a.length c0, .slice A1 b.length c1] 31)) := (Below.refl _ w).alloc (Nat.le_refl _) _
  refine ⟨rfl, by omega, fun _ => ⟨_, rfl, fun j p hj => ?_⟩⟩
  match j, hj with
  | 0, hj =>
    simp at hj; subst hj
    exact ⟨[.slice A0 a.length c0], rfl, ⟨A0, c0, rfl, l0, Kd.C_below h0 hB⟩, fun i u hu => by
      match i, hu with
      | 0, hu => simp at hu; subst hu; exact (blk_cell hb 0).trans rfl⟩
  | 1, hj =>
    simp at hj; subst hj
    exact ⟨[.slice A1 b.length c1], rfl, ⟨A1, c1, rfl, l1, Kd.C_below h1 hB⟩, fun i u hu => by
      match i, hu with
      | 0, hu => simp at hu; subst hu; exact (blk_cell hb 1).trans rfl⟩
theorem Q_C {w : World} {base : Nat} {ok : Nat → Prop} {A : Option Addr} {n c : Nat} {xs : List Int} (h : kB.Q 5 w base ok (.slice A n c) xs) : kB.C w A xs.length xs := (Kd.Q_reads' h).2.2

theorem send_r {ok : Nat → Prop} (g : Nat) (s : St) (A : Option Addr) (c : Nat) (b : List Int) (w : World) (h : IsRef w ok g s) (hC : kB.C w A b.length b) (hc : b.length ≤ c) :
    Calls Try.prog 29 #[.pointer (some ⟨g, 0, none⟩), .slice A b.length c] w fun e w' => e = .returned (.bool (s.sendOk b.length)) ∧ IsRef w' (fun k => ok k ∨ w.heap.size ≤ k) g (s.send b) ∧ Mod ok w w' := by
  have h0 := h
  have hbig : b.length ≤ 9223372036854775807 := hC.2.1
  obtain ⟨gm, v, hb, hm, hq, okg, okm⟩ := h
  have hwl := q_max (Q_inner hq)
  have HI2 := Lib.hid (isRef_mono (ok' := fun k => ok k ∨ w.heap.size ≤ k) h0 (fun k hk => .inl hk))
  unfold St.send
  obtain ⟨A1, c1, rfl, hc1⟩ := Kd.Q_slice hq
  obtain ⟨c0, c1', c2, c3, c4, c5, c6, c7⟩ := blk8 hb
  obtain ⟨n, hn⟩ : ∃ n, n = b.length := ⟨_, rfl⟩
  obtain ⟨m, hm0⟩ : ∃ m, m = s.wait.length := ⟨_, rfl⟩
  have hsh : s.shut = (s.ended || s.cut) := rfl
  clear c0 c1' c2 c5 c6
  by_cases hl : (b.length : Int) ≤ 65536 - (s.wait.length : Int)
  · rcases he : s.ended with _ | _ <;> rcases hcu : s.cut with _ | _ <;> rw [he] at c4 <;> rw [hcu] at c7 <;> rw [he, hcu] at hsh
    · have HO : Hid (s.sendOk b.length = true) := Lib.hid (by simp [St.sendOk, hsh, hl])
      have hne : some g ≠ (Value.slice A1 s.wait.length c1).ownBlock := Kd.Q_ne hq hb (by decide)
      have HE1 := Lib.hid he
      have HC1 := Lib.hid hcu
      have HB := Lib.hid hb
      have HM := Lib.hid hm
      have HQ := Lib.hid hq
      have HJ := Lib.hid (C_lit2 hc1 hc (Q_C hq) hC)
      have hgl := blk_lt hb
      have HE : Hid (([s.wait, b].flatten) = s.wait ++ b) := Lib.hid (by simp)
      have hL : [s.wait, b].flatten.length ≤ 140737488355328 := by simp; omega
      clear h0 hb hm hq hC he hcu hsh hn hm0
      rw [HO.out]
      go_enter Try.func29, Try.ntmps29
      go_wp2_with (go_at_call 87; refine (Join_any _ _ _ _ _ HJ.out hL).mono ?_; rintro e w' ⟨A2, n2, c2, rfl, hq1, hB1⟩; have hb1 := blk_below (blk_alloc HB.out _) hB1; have hf1 := blk_frozen hb1 3; have hd1 := (blk8 hb1).2.2.2.1)
      go_ret
      have hB2 : Below w.heap.size w w' := ((Below.refl w.heap.size w).alloc (Nat.le_refl _) _).trans (hB1.mono (by simp))
      rw [HE.out] at hq1
      refine ⟨rfl, isRef_set2 (ok := fun k => ok k ∨ w.heap.size ≤ k) (v' := .slice A2 n2 c2) (s' := ⟨s.id, s.left, s.others, s.wait ++ b, false, s.told, s.over, false⟩) (l := 0) hb1 (blk_below HM.out hB2) (.inl okg) (.inl okm) 3 _ (q_far (Kd.Q_mono hq1 (fun k hk => .inr (by simp at hk; omega))) hb1 (by decide) _ _) (by simp [HE1.out, HC1.out]), ?_⟩
      exact (Mod.of_below hB2 ok).setCell (.inl okg) _
    all_goals
      have HO : Hid (s.sendOk b.length = false) := Lib.hid (by simp [St.sendOk, hsh])
      clear h0 hb hm hq hC he hcu hsh hn hm0
      rw [HO.out]
      go_enter Try.func29, Try.ntmps29
      go_wp2
      go_ret
      exact ⟨rfl, HI2.out, Mod.refl _ _⟩
  · have HO : Hid (s.sendOk b.length = false) := Lib.hid (by simp [St.sendOk, hl])
    clear h0 hb hm hq hC hsh hn hm0
    rw [HO.out]
    rcases he : s.ended with _ | _ <;> rcases hcu : s.cut with _ | _ <;> rw [he] at c4 <;> rw [hcu] at c7 <;> clear he hcu
    all_goals
      go_enter Try.func29, Try.ntmps29
      go_wp2
      go_ret
      exact ⟨rfl, HI2.out, Mod.refl _ _⟩
end Go.Proofs.Ytcdhgpodoigddaa
