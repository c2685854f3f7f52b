/-
  The filter of first messages: its state, of the program (type 119) and of the reference (type 30); what is made and only asked.
-/
import Derived.Test.YtcdhgpodoigddaaB
import Derived.Test.YtcdhgpodoigddaaP0
import Derived.Test.YtcdhgpodoigddaaWArr
namespace Go.Proofs.Ytcdhgpodoigddaa
open Go.RowKit Go.Proofs.YtcdhgpodoigddaaW.PrintWords Go.Proofs.YtcdhgpodoigddaaW.PrintLast Go.Proofs.YtcdhgpodoigddaaW.PrintMore
set_option linter.unusedVariables false
attribute [local go_sem] max2_max min2_min max_two min_two
/-- A message that was seen: its key's bytes, its stamp. -/
structure Msg where
  e : List Int
  st : Int
  h : e.length = 32
instance : Inhabited Msg := ⟨⟨List.replicate 32 0, 0, by simp⟩⟩
/-- Its 33 cells. -/
def encM (x : Msg) : List Value := nums .u8 x.e ++ [.int .i64 x.st]
theorem encM_length (x : Msg) : (encM x).length = 33 := by unfold encM; rw [List.length_append, nums_length, x.h]; rfl
theorem encM_one (x : Msg) : ∀ u ∈ encM x, u.oneCell' = true := by
  intro u hu
  unfold encM at hu
  rcases List.mem_append.1 hu with h | h
  · simp only [nums, List.mem_map] at h
    obtain ⟨_, _, rfl⟩ := h
    rfl
  · rw [List.mem_singleton.1 h]
    rfl
def kMsg : Kd Msg := flatK encM 33 encM_length encM_one
structure Fil where
  win : Int
  most : Int
  since : Int
  l : List Msg
def cutT (n : Int) : Int := max 0 (min n 1099511627776)
theorem cutT_bounds (n : Int) : 0 ≤ cutT n ∧ cutT n ≤ 1099511627776 := by unfold cutT; omega
def Fil.new (window most now : Int) : Fil := ⟨cutT window, max 1 (min most 256), cutT now + cutT window, []⟩
theorem time_p (n : Int) (w : World) : Calls Try.prog 77 #[.int .i64 n] w fun e w' => e = .returned (.int .i64 (cutT n)) ∧ w = w' := by
  unfold cutT
  go_enter Try.func77, Try.ntmps77
  go_wp2
  go_ret
  exact ⟨rfl, rfl⟩
theorem clamp_r (n a b : Int) (w : World) : Calls Try.prog 78 #[.int .i64 n, .int .i64 a, .int .i64 b] w fun e w' => e = .returned (.int .i64 (max a (min n b))) ∧ w = w' := by
  go_enter Try.func78, Try.ntmps78
  go_wp2
  go_ret
  exact ⟨rfl, rfl⟩
def timeB (n : Int) : Bool := decide (n = cutT n)
theorem time_r (n : Int) (w : World) : Calls Try.prog 83 #[.int .i64 n] w fun e w' => e = .returned (.bool (timeB n)) ∧ w = w' := by
  have hk : (0 ≤ n ∧ n ≤ 1099511627776) ∨ n < 0 ∨ (0 ≤ n ∧ 1099511627776 < n) := by omega
  rcases hk with ⟨h0, h1⟩ | h0 | ⟨h0, h1⟩
  · have HT : Hid (timeB n = true) := Lib.hid (by unfold timeB cutT; exact decide_eq_true (by omega))
    rw [HT.out]
    go_enter Try.func83, Try.ntmps83
    go_wp2
    go_ret
    exact ⟨rfl, rfl⟩
  · have HT : Hid (timeB n = false) := Lib.hid (by unfold timeB cutT; exact decide_eq_false (by omega))
    rw [HT.out]
    go_enter Try.func83, Try.ntmps83
    go_wp2
    go_ret
    exact ⟨rfl, rfl⟩
  · have HT : Hid (timeB n = false) := Lib.hid (by unfold timeB cutT; exact decide_eq_false (by omega))
    rw [HT.out]
    go_enter Try.func83, Try.ntmps83
    go_wp2
    go_ret
    exact ⟨by simp; omega, rfl⟩
def kSeen : Kd Msg := Kd.iso (Kd.pair (Kd.int .i64) (Kd.string)) (fun x : Msg => (x.st, strOfNums x.e))
def IsFil (w : World) (ok : Nat → Prop) (g : Nat) (f : Fil) : Prop := ∃ v,
  w.heap[g]? = some (.cells #[.int .i64 f.win, .int .i64 f.most, .int .i64 f.since, v] 119 (0, 0)) ∧ kMsg.R 124 w 0 ok v f.l ∧ ok g
def IsFilR (w : World) (ok : Nat → Prop) (g : Nat) (f : Fil) : Prop := ∃ v,
  w.heap[g]? = some (.cells #[.int .i64 f.win, .int .i64 f.since, .int .i64 f.most, v] 30 (0, 0)) ∧ kSeen.R 129 w 0 ok v f.l ∧ ok g
set_option maxRecDepth 100000 in
theorem new_fil_p (a b c : Int) (w : World) :
    Calls Try.prog 16 #[.int .i64 a, .int .i64 b, .int .i64 c] w fun e w' => ∃ g, e = .returned (.pointer (some ⟨g, 0, none⟩)) ∧ IsFil w' (fun k => w.heap.size ≤ k) g (Fil.new a b c) ∧ Below w.heap.size w w' := by
  have ha := cutT_bounds a
  have hc := cutT_bounds c
  have hI : IsFil (w.alloc (.cells #[.int .i64 (cutT a), .int .i64 (max 1 (min b 256)), .int .i64 (cutT c + cutT a), .slice none 0 0] 119)) (fun k => w.heap.size ≤ k) w.heap.size (Fil.new a b c) :=
    ⟨_, heap_alloc_new w _, Kd.R_nil _ _ _ _ _, Nat.le_refl _⟩
  have HI := Lib.hid hI
  have hB : ∀ o, Below w.heap.size w (w.alloc o) := fun o => (Below.refl _ w).alloc (Nat.le_refl _) o
  clear hI
  generalize hza : cutT a = za at *
  generalize hzc : cutT c = zc at *
  have HA := Lib.hid hza
  have HC := Lib.hid hzc
  clear hza hzc
  go_enter Try.func16, Try.ntmps16
  go_wp2_with (first
    | (go_at_call_of 77 (Value.int .i64 a); refine (time_p a _).mono ?_; rw [HA.out]; rintro e w' ⟨rfl, rfl⟩)
    | (go_at_call_of 77 (Value.int .i64 c); refine (time_p c _).mono ?_; rw [HC.out]; rintro e w' ⟨rfl, rfl⟩))
  go_ret
  exact ⟨_, rfl, HI.out, hB _⟩
set_option maxRecDepth 100000 in
set_option maxHeartbeats 1000000 in
theorem new_fil_r (a b c : Int) (w : World) :
    Calls Try.prog 17 #[.int .i64 a, .int .i64 b, .int .i64 c] w fun e w' => ∃ g, e = .returned (.pointer (some ⟨g, 0, none⟩)) ∧ IsFilR w' (fun k => w.heap.size ≤ k) g (Fil.new a b c) ∧ Below w.heap.size w w' := by
  have ha := cutT_bounds a
  have hc := cutT_bounds c
  have hI : IsFilR (w.alloc (.cells #[.int .i64 (cutT a), .int .i64 (cutT c + cutT a), .int .i64 (max 1 (min b 256)), .slice none 0 0] 30)) (fun k => w.heap.size ≤ k) w.heap.size (Fil.new a b c) :=
    ⟨_, heap_alloc_new w _, Kd.R_nil _ _ _ _ _, Nat.le_refl _⟩
  have HI := Lib.hid hI
  have hB : ∀ o, Below w.heap.size w (w.alloc o) := fun o => (Below.refl _ w).alloc (Nat.le_refl _) o
  clear hI
  generalize hza : cutT a = za at *
  generalize hzc : cutT c = zc at *
  have HA : Hid (max 0 (min a 1099511627776) = za) := Lib.hid hza
  have HC : Hid (max 0 (min c 1099511627776) = zc) := Lib.hid hzc
  clear hza hzc
  go_enter Try.func17, Try.ntmps17
  go_wp2_with (first
    | (go_at_call_of 78 (Value.int .i64 a); refine (clamp_r a 0 1099511627776 _).mono ?_; rw [HA.out]; rintro e w' ⟨rfl, rfl⟩)
    | (go_at_call_of 78 (Value.int .i64 c); refine (clamp_r c 0 1099511627776 _).mono ?_; rw [HC.out]; rintro e w' ⟨rfl, rfl⟩)
    | (go_at_call_of 78 (Value.int .i64 b); refine (clamp_r b 1 256 _).mono ?_; rintro e w' ⟨rfl, rfl⟩))
  go_ret
  exact ⟨_, rfl, HI.out, hB _⟩
theorem since_p {ok : Nat → Prop} (g : Nat) (f : Fil) (w : World) (h : IsFil w ok g f) :
    Calls Try.prog 18 #[.pointer (some ⟨g, 0, none⟩)] w fun e w' => e = .returned (.int .i64 f.since) ∧ w = w' := by
  obtain ⟨v, hb, _, _⟩ := h
  have c2 : w.cell? ⟨g, 2, none⟩ = some (.int .i64 f.since) := (blk_cell hb 2).trans rfl
  clear hb
  go_enter Try.func18, Try.ntmps18
  go_wp2
  go_ret
  exact ⟨rfl, rfl⟩
theorem len_p {ok : Nat → Prop} (g : Nat) (f : Fil) (w : World) (h : IsFil w ok g f) :
    Calls Try.prog 22 #[.pointer (some ⟨g, 0, none⟩)] w fun e w' => e = .returned (.int .i64 f.l.length) ∧ w = w' := by
  obtain ⟨v, hb, hR, _⟩ := h
  obtain ⟨A, c, rfl, _⟩ := Kd.Q_slice (Kd.Q_of_R hR)
  have c3 : w.cell? ⟨g, 3, none⟩ = some (.slice A f.l.length c) := (blk_cell hb 3).trans rfl
  clear hb hR
  go_enter Try.func22, Try.ntmps22
  go_wp2
  go_ret
  exact ⟨rfl, rfl⟩
end Go.Proofs.Ytcdhgpodoigddaa
