/-
  The simple calls on a credit and on a stream, of the program and of the reference.
-/
import Derived.Test.YtcdhgpodoigddaaB
namespace Go.Proofs.Ytcdhgpodoigddaa
open Go.RowKit Go.Proofs.YtcdhgpodoigddaaW.PrintWords Go.Proofs.YtcdhgpodoigddaaW.PrintLast Go.Proofs.YtcdhgpodoigddaaW.PrintMore
set_option linter.unusedVariables false
attribute [local go_sem] max2_max min2_min max_two min_two

/-! ### credit -/
set_option maxHeartbeats 400000 in
theorem ctake_p (g : Nat) (n k : Int) (w : World) (hb : w.heap[g]? = some (.cells #[.int .i64 n] 172 (0, 0))) (h0 : 0 ≤ n) (h1 : n ≤ 65536) :
    Calls Try.prog 91 #[.pointer (some ⟨g, 0, none⟩), .int .i64 k] w fun e w' => e = .returned (.int .i64 (max 0 (min k n))) ∧ w.setCell ⟨g, 0, none⟩ (.int .i64 (n - max 0 (min k n))) = w' := by
  have hc : w.cell? ⟨g, 0, none⟩ = some (.int .i64 n) := (blk_cell hb 0).trans rfl
  have hf : w.frozen? ⟨g, 0, none⟩ = false := blk_frozen hb 0
  clear hb
  go_enter Try.func91, Try.ntmps91
  go_wp2
  go_ret
  exact ⟨rfl, rfl⟩
set_option maxHeartbeats 400000 in
theorem ctake_r (g : Nat) (n k : Int) (w : World) (hb : w.heap[g]? = some (.cells #[.int .i64 n] 174 (0, 0))) (h0 : 0 ≤ n) (h1 : n ≤ 65536) :
    Calls Try.prog 93 #[.pointer (some ⟨g, 0, none⟩), .int .i64 k] w fun e w' => e = .returned (.int .i64 (max 0 (min k n))) ∧ w.setCell ⟨g, 0, none⟩ (.int .i64 (n - max 0 (min k n))) = w' := by
  have hc : w.cell? ⟨g, 0, none⟩ = some (.int .i64 n) := (blk_cell hb 0).trans rfl
  have hf : w.frozen? ⟨g, 0, none⟩ = false := blk_frozen hb 0
  clear hb
  go_enter Try.func93, Try.ntmps93
  go_wp2
  go_ret
  exact ⟨rfl, rfl⟩
def giveOk (n k : Int) : Bool := decide (1 ≤ k ∧ k ≤ 65536 - n)
theorem cgive_p (g : Nat) (n k : Int) (w : World) (hb : w.heap[g]? = some (.cells #[.int .i64 n] 172 (0, 0))) (h0 : 0 ≤ n) (h1 : n ≤ 65536) :
    Calls Try.prog 95 #[.pointer (some ⟨g, 0, none⟩), .int .i64 k] w fun e w' => e = .returned (.bool (giveOk n k)) ∧ (if giveOk n k then w.setCell ⟨g, 0, none⟩ (.int .i64 (n + k)) else w) = w' := by
  have hc : w.cell? ⟨g, 0, none⟩ = some (.int .i64 n) := (blk_cell hb 0).trans rfl
  have hf : w.frozen? ⟨g, 0, none⟩ = false := blk_frozen hb 0
  clear hb
  have hk : k < 1 ∨ (1 ≤ k ∧ 65536 - n < k) ∨ (1 ≤ k ∧ k ≤ 65536 - n) := by omega
  rcases hk with hk | ⟨hk, hk2⟩ | ⟨hk, hk2⟩
  · have hg : giveOk n k = false := by simp [giveOk]; omega
    rw [hg]; clear hg
    go_enter Try.func95, Try.ntmps95
    go_wp2
    go_ret
    exact ⟨rfl, rfl⟩
  · have hg : giveOk n k = false := by simp [giveOk]; omega
    rw [hg]; clear hg
    go_enter Try.func95, Try.ntmps95
    go_wp2
    go_ret
    exact ⟨rfl, rfl⟩
  · have hg : giveOk n k = true := by simp [giveOk]; omega
    rw [hg]; clear hg
    go_enter Try.func95, Try.ntmps95
    go_wp2
    go_ret
    exact ⟨rfl, rfl⟩
theorem cgive_r (g : Nat) (n k : Int) (w : World) (hb : w.heap[g]? = some (.cells #[.int .i64 n] 174 (0, 0))) (h0 : 0 ≤ n) (h1 : n ≤ 65536) :
    Calls Try.prog 97 #[.pointer (some ⟨g, 0, none⟩), .int .i64 k] w fun e w' => e = .returned (.bool (giveOk n k)) ∧ (if giveOk n k then w.setCell ⟨g, 0, none⟩ (.int .i64 (n + k)) else w) = w' := by
  have hc : w.cell? ⟨g, 0, none⟩ = some (.int .i64 n) := (blk_cell hb 0).trans rfl
  have hf : w.frozen? ⟨g, 0, none⟩ = false := blk_frozen hb 0
  clear hb
  have hk : k < 1 ∨ (1 ≤ k ∧ 65536 - n < k) ∨ (1 ≤ k ∧ k ≤ 65536 - n) := by omega
  rcases hk with hk | ⟨hk, hk2⟩ | ⟨hk, hk2⟩
  · have hg : giveOk n k = false := by simp [giveOk]; omega
    rw [hg]; clear hg
    go_enter Try.func97, Try.ntmps97
    go_wp2
    go_ret
    exact ⟨rfl, rfl⟩
  · have hg : giveOk n k = false := by simp [giveOk]; omega
    rw [hg]; clear hg
    go_enter Try.func97, Try.ntmps97
    go_wp2
    go_ret
    exact ⟨rfl, rfl⟩
  · have hg : giveOk n k = true := by simp [giveOk]; omega
    rw [hg]; clear hg
    go_enter Try.func97, Try.ntmps97
    go_wp2
    go_ret
    exact ⟨rfl, rfl⟩

/-! ### New -/
def StOk (id n : Int) : Prop := 1 ≤ id ∧ id ≤ 65535 ∧ 1 ≤ n ∧ n ≤ 65536
def St.new (id n : Int) : St := ⟨id, n, n, [], false, false, false, false⟩
theorem new_no_p (id n : Int) (w : World) (h : ¬ StOk id n) :
    Calls Try.prog 24 #[.int .i64 id, .int .i64 n] w fun e w' => e = .returned (.pointer none) ∧ w = w' := by
  have hk : id < 1 ∨ (1 ≤ id ∧ 65535 < id) ∨ (1 ≤ id ∧ id ≤ 65535 ∧ n < 1) ∨ (1 ≤ id ∧ id ≤ 65535 ∧ 1 ≤ n ∧ 65536 < n) := by unfold StOk at h; omega
  clear h
  rcases hk with hk | ⟨h1, h2⟩ | ⟨h1, h2, h3⟩ | ⟨h1, h2, h3, h4⟩
  all_goals
    go_enter Try.func24, Try.ntmps24
    go_wp2_with fail
    go_ret
    exact ⟨rfl, rfl⟩
theorem new_no_r (id n : Int) (w : World) (h : ¬ StOk id n) :
    Calls Try.prog 25 #[.int .i64 id, .int .i64 n] w fun e w' => e = .returned (.pointer none) ∧ w = w' := by
  have hk : id < 1 ∨ (1 ≤ id ∧ 65535 < id) ∨ (1 ≤ id ∧ id ≤ 65535 ∧ n < 1) ∨ (1 ≤ id ∧ id ≤ 65535 ∧ 1 ≤ n ∧ 65536 < n) := by unfold StOk at h; omega
  clear h
  rcases hk with hk | ⟨h1, h2⟩ | ⟨h1, h2, h3⟩ | ⟨h1, h2, h3, h4⟩
  all_goals
    go_enter Try.func25, Try.ntmps25
    go_wp2_with fail
    go_ret
    exact ⟨rfl, rfl⟩
theorem clampC {n : Int} (h1 : 1 ≤ n) (h2 : n ≤ 65536) : max 0 (min n 65536) = n := by omega
theorem isStr_new (w : World) (id n : Int) : IsStr ((w.alloc (.cells #[.int .i64 n] 172)).alloc (.cells #[.int .i64 id, .pointer (some ⟨w.heap.size, 0, none⟩), .int .i64 n, .slice none 0 0, .bool false, .bool false, .bool false, .bool false] 133))
    (fun k => w.heap.size ≤ k) (w.heap.size + 1) (St.new id n) :=
  ⟨w.heap.size, .slice none 0 0, by have h := heap_alloc_new (w.alloc (.cells #[.int .i64 n] 172)); rw [World.size_alloc] at h; exact h _, blk_alloc (heap_alloc_new w _) _, Kd.Q_of_R (Kd.R_nil _ _ _ _ _), by simp, by simp⟩
theorem isRef_new (w : World) (id n : Int) : IsRef ((w.alloc (.cells #[.int .i64 n] 174)).alloc (.cells #[.int .i64 id, .int .i64 n, .pointer (some ⟨w.heap.size, 0, none⟩), .slice none 0 0, .bool false, .bool false, .bool false, .bool false] 67))
    (fun k => w.heap.size ≤ k) (w.heap.size + 1) (St.new id n) :=
  ⟨w.heap.size, .slice none 0 0, by have h := heap_alloc_new (w.alloc (.cells #[.int .i64 n] 174)); rw [World.size_alloc] at h; exact h _, blk_alloc (heap_alloc_new w _) _, Kd.Q_of_R (Kd.R_nil _ _ _ _ _), by simp, by simp⟩
theorem new_yes_p (id n : Int) (w : World) (h : StOk id n) :
    Calls Try.prog 24 #[.int .i64 id, .int .i64 n] w fun e w' => ∃ g, e = .returned (.pointer (some ⟨g, 0, none⟩)) ∧ IsStr w' (fun k => w.heap.size ≤ k) g (St.new id n) ∧ Below w.heap.size w w' := by
  obtain ⟨h1, h2, h3, h4⟩ := h
  have hI := isStr_new w id n
  have hB := ((Below.refl w.heap.size w).alloc (Nat.le_refl _) (.cells #[.int .i64 n] 172)).alloc (by simp) (.cells #[.int .i64 id, .pointer (some ⟨w.heap.size, 0, none⟩), .int .i64 n, .slice none 0 0, .bool false, .bool false, .bool false, .bool false] 133)
  have hm := clampC h3 h4
  go_enter Try.func24, Try.ntmps24
  go_wp2
  go_ret
  exact ⟨_, rfl, hI, hB⟩
theorem new_yes_r (id n : Int) (w : World) (h : StOk id n) :
    Calls Try.prog 25 #[.int .i64 id, .int .i64 n] w fun e w' => ∃ g, e = .returned (.pointer (some ⟨g, 0, none⟩)) ∧ IsRef w' (fun k => w.heap.size ≤ k) g (St.new id n) ∧ Below w.heap.size w w' := by
  obtain ⟨h1, h2, h3, h4⟩ := h
  have hI := isRef_new w id n
  have hB := ((Below.refl w.heap.size w).alloc (Nat.le_refl _) (.cells #[.int .i64 n] 174)).alloc (by simp) (.cells #[.int .i64 id, .int .i64 n, .pointer (some ⟨w.heap.size, 0, none⟩), .slice none 0 0, .bool false, .bool false, .bool false, .bool false] 67)
  have hm := clampC h3 h4
  go_enter Try.func25, Try.ntmps25
  go_wp2
  go_ret
  exact ⟨_, rfl, hI, hB⟩

/-! ### what is only asked -/
theorem blk8 {w : World} {g t : Nat} {a0 a1 a2 a3 a4 a5 a6 a7 : Value} (h : w.heap[g]? = some (.cells #[a0, a1, a2, a3, a4, a5, a6, a7] t (0, 0))) :
    w.cell? ⟨g, 0, none⟩ = some a0 ∧ w.cell? ⟨g, 1, none⟩ = some a1 ∧ w.cell? ⟨g, 2, none⟩ = some a2 ∧ w.cell? ⟨g, 3, none⟩ = some a3 ∧ w.cell? ⟨g, 4, none⟩ = some a4 ∧ w.cell? ⟨g, 5, none⟩ = some a5 ∧ w.cell? ⟨g, 6, none⟩ = some a6 ∧ w.cell? ⟨g, 7, none⟩ = some a7 :=
  ⟨(blk_cell h 0).trans rfl, (blk_cell h 1).trans rfl, (blk_cell h 2).trans rfl, (blk_cell h 3).trans rfl, (blk_cell h 4).trans rfl, (blk_cell h 5).trans rfl, (blk_cell h 6).trans rfl, (blk_cell h 7).trans rfl⟩
def St.shut (s : St) : Bool := s.ended || s.cut
def St.done (s : St) : Bool := s.cut || (s.told && s.over)
theorem closed_p {ok : Nat → Prop} (g : Nat) (s : St) (w : World) (h : IsStr w ok g s) :
    Calls Try.prog 86 #[.pointer (some ⟨g, 0, none⟩)] w fun e w' => e = .returned (.bool s.shut) ∧ w = w' := by
  obtain ⟨gm, v, hb, _, _, _, _⟩ := h
  obtain ⟨c0, c1, c2, c3, c4, c5, c6, c7⟩ := blk8 hb
  clear hb c0 c1 c2 c3 c5 c6
  unfold St.shut
  rcases he : s.ended with _ | _ <;> rcases hc : s.cut with _ | _ <;> rw [he] at c4 <;> rw [hc] at c7 <;> clear he hc
  all_goals
    go_enter Try.func86, Try.ntmps86
    go_wp2
    go_ret
    exact ⟨rfl, rfl⟩
theorem done_p {ok : Nat → Prop} (g : Nat) (s : St) (w : World) (h : IsStr w ok g s) :
    Calls Try.prog 40 #[.pointer (some ⟨g, 0, none⟩)] w fun e w' => e = .returned (.bool s.done) ∧ w = w' := by
  obtain ⟨gm, v, hb, _, _, _, _⟩ := h
  obtain ⟨c0, c1, c2, c3, c4, c5, c6, c7⟩ := blk8 hb
  clear hb c0 c1 c2 c3 c4
  unfold St.done
  rcases hc : s.cut with _ | _ <;> rcases he : s.told with _ | _ <;> rcases ho : s.over with _ | _ <;> rw [hc] at c7 <;> rw [he] at c5 <;> rw [ho] at c6 <;> clear he hc ho
  all_goals
    go_enter Try.func40, Try.ntmps40
    go_wp2
    go_ret
    exact ⟨rfl, rfl⟩
theorem done_r {ok : Nat → Prop} (g : Nat) (s : St) (w : World) (h : IsRef w ok g s) :
    Calls Try.prog 41 #[.pointer (some ⟨g, 0, none⟩)] w fun e w' => e = .returned (.bool s.done) ∧ w = w' := by
  obtain ⟨gm, v, hb, _, _, _, _⟩ := h
  obtain ⟨c0, c1, c2, c3, c4, c5, c6, c7⟩ := blk8 hb
  clear hb c0 c1 c2 c3 c4
  unfold St.done
  rcases hc : s.cut with _ | _ <;> rcases he : s.told with _ | _ <;> rcases ho : s.over with _ | _ <;> rw [hc] at c7 <;> rw [he] at c5 <;> rw [ho] at c6 <;> clear he hc ho
  all_goals
    go_enter Try.func41, Try.ntmps41
    go_wp2
    go_ret
    exact ⟨rfl, rfl⟩
theorem waits_p {ok : Nat → Prop} (g : Nat) (s : St) (w : World) (h : IsStr w ok g s) :
    Calls Try.prog 42 #[.pointer (some ⟨g, 0, none⟩)] w fun e w' => e = .returned (.int .i64 s.wait.length) ∧ w = w' := by
  obtain ⟨gm, v, hb, _, hq, _, _⟩ := h
  obtain ⟨A, c, rfl, _⟩ := Kd.Q_slice hq
  obtain ⟨c0, c1, c2, c3, c4, c5, c6, c7⟩ := blk8 hb
  clear hb c0 c1 c2 c4 c5 c6 c7 hq
  go_enter Try.func42, Try.ntmps42
  go_wp2
  go_ret
  exact ⟨rfl, rfl⟩
theorem id_p {ok : Nat → Prop} (g : Nat) (s : St) (w : World) (h : IsStr w ok g s) :
    Calls Try.prog 43 #[.pointer (some ⟨g, 0, none⟩)] w fun e w' => e = .returned (.int .i64 s.id) ∧ w = w' := by
  obtain ⟨gm, v, hb, _, hq, _, _⟩ := h
  obtain ⟨c0, c1, c2, c3, c4, c5, c6, c7⟩ := blk8 hb
  clear hb c1 c2 c3 c4 c5 c6 c7 hq
  go_enter Try.func43, Try.ntmps43
  go_wp2
  go_ret
  exact ⟨rfl, rfl⟩

/-! ### End -/
theorem isStr_set {w : World} {ok : Nat → Prop} {g gm : Nat} {s : St} {v : Value} (s' : St)
    (hm : w.heap[gm]? = some (.cells #[.int .i64 s.left] 172 (0, 0))) (hq : kB.Q 5 w 0 ok v s.wait) (okg : ok g) (okm : ok gm)
    (i : Nat) (u : Value) (cs : Array Value) (hb : w.heap[g]? = some (.cells cs 133 (0, 0))) (hl : s'.left = s.left) (hw : s'.wait = s.wait)
    (hcs : cs.setIfInBounds i u = #[.int .i64 s'.id, .pointer (some ⟨gm, 0, none⟩), .int .i64 s'.others, v, .bool s'.ended, .bool s'.told, .bool s'.over, .bool s'.cut]) :
    IsStr (w.setCell ⟨g, i, none⟩ u) ok g s' := by
  refine ⟨gm, v, ?_, ?_, ?_, okg, okm⟩
  · rw [blk_set hb i u, hcs]
  · rw [hl]; exact blk_far hm (p := ⟨g, i, none⟩) (blk_ne hm hb (by decide)) u
  · rw [hw]
    refine Kd.Q_mono (Kd.Q_far (p := ⟨g, i, none⟩) (Kd.Q_types hq hb (by intro q hq; simp [Kd.int, Kd.scalar] at hq; omega)) (fun _ hk => hk.2) u) (fun _ hk => hk.1)
end Go.Proofs.Ytcdhgpodoigddaa
