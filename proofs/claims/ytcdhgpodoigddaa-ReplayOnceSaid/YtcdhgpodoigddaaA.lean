/-
  append(b, c...) of bytes, b a row of the call's own or of a state's that may begin inside its block.
-/
import Derived.Test.YtcdhgpodoigddaaB
import Derived.Test.YtcdhgpodoigddaaWNEv
namespace Go.Proofs.Ytcdhgpodoigddaa
open Go.RowKit Go.Proofs.YtcdhgpodoigddaaW.PrintWords Go.Proofs.YtcdhgpodoigddaaW.PrintLast Go.Proofs.YtcdhgpodoigddaaW.PrintMore
set_option linter.unusedVariables false

theorem info5 : (Try.prog.info? 5).map (fun i => (i.zero, i.size, i.bytes)) = some (some (.int .u8 0), 1, 1) := by kernel_rfl
theorem Q_inner {w : World} {base : Nat} {ok : Nat → Prop} {v : Value} {xs : List Int} (h : kB.Q 5 w base ok v xs) : QRow w base 5 1 v xs.length (nums .u8 xs) := by
  obtain ⟨_, inner, ho, hr⟩ := h
  have : inner = nums .u8 xs := by
    apply List.ext_getElem?
    intro j
    have hl1 : inner.length = xs.length := by have := hr.1; simp [Kd.int, Kd.scalar] at this; omega
    rcases Nat.lt_or_ge j xs.length with hj | hj
    · have h2 := hr.2 j _ (List.getElem?_eq_getElem hj)
      have hl : j < inner.length := by omega
      have h3 : (inner.drop (j * 1)).take 1 = [Value.int .u8 xs[j]] := h2
      rw [Nat.mul_one, List.drop_eq_getElem_cons hl] at h3
      have h4 : inner[j] = Value.int .u8 xs[j] := by
        have h5 := congrArg List.head? h3
        rw [List.take_succ_cons] at h5
        exact Option.some.inj h5
      rw [List.getElem?_eq_getElem hl, h4]
      simp [nums, List.getElem?_eq_getElem hj]
    · rw [List.getElem?_eq_none (by omega), List.getElem?_eq_none (by rw [nums_length]; exact hj)]
  rw [← this]
  exact ho
theorem Q_ofInner {w : World} {base : Nat} {ok : Nat → Prop} {v : Value} {xs : List Int} (h : QRow w base 5 1 v xs.length (nums .u8 xs)) (hok : ∀ k, v.ownBlock = some k → ok k) : kB.Q 5 w base ok v xs :=
  ⟨hok, nums .u8 xs, h, Kd.reps_scalar (enc := Value.int .u8) xs⟩
theorem cells_of_C {w : World} {ad : Addr} {n : Nat} {ys : List Int} (h : kB.C w (some ad) n ys) : ∀ j u, (nums .u8 ys)[j]? = some u → w.cell? (ad.add j) = some u := by
  intro j u hu
  have hj : j < ys.length := by
    rcases Nat.lt_or_ge j ys.length with h | h
    · exact h
    · simp [nums, List.getElem?_eq_none h] at hu
  have hr := Kd.reads_of_C (enc := Value.int .u8) (d := 0) h
  obtain ⟨ad', h', hc⟩ := hr.2.2 (by have := hr.1; omega)
  injection h' with h'
  subst h'
  have := hc j (by have := hr.1; omega)
  simp [nums, List.getElem?_eq_getElem hj] at hu
  subst hu
  rw [this]
  simp [List.getD_eq_getElem?_getD, List.getElem?_eq_getElem hj]

theorem run_appB (ty : TypeId) {W : World} {v : Value} {xs ys : List Int} {A : Option Addr} {m c : Nat} {ok : Nat → Prop} (HO : kB.Q 5 W 0 ok v xs) (HR : kB.C W A m ys) (hl : xs.length + m ≤ 140737488355328) :
    ∃ v1 w1, (Builtin.append_ #[31, 31] ty #[v, .slice A m c]).run Try.prog W = .ok v1 w1 ∧ kB.Q 5 w1 0 (fun k => ok k ∨ W.heap.size ≤ k) v1 (xs ++ ys) ∧ W.grownBy w1 v.ownBlock ∧ (v1.ownBlock = v.ownBlock ∨ ∃ b, v1.ownBlock = some b ∧ W.heap.size ≤ b) := by
  obtain ⟨i0, hi, hz0, hz1, hz2⟩ := info_parts info5
  have hm : ys.length = m := HR.1
  have hq := Q_inner HO
  rcases Nat.eq_zero_or_pos m with h0 | hp
  · subst h0
    obtain rfl : ys = [] := List.eq_nil_of_length_eq_zero hm
    obtain ⟨A0, c0, rfl, hc0⟩ := q_slice hq
    refine ⟨_, W, ?_, by rw [List.append_nil]; exact Kd.Q_mono HO (fun k hk => .inl hk), World.grownBy.refl W _, .inl rfl⟩
    cases A <;> cases A0 <;> simp [Builtin.append_, run_underlying Try.underlying31, sizeOf, typeInfo, hi, Builtin.lenOf, Builtin.firstCells, hc0, storeCells, loadCells, loadCellsFrom]
  · obtain ⟨ad, rfl, _⟩ := HR.2.2 hp
    obtain ⟨v1, w1, hr, h2, h3, h4⟩ := q_append (P := Try.prog) W 0 31 ty 5 i0 (.int .u8 0) 1 1 Try.underlying31 hi hz0 hz1 hz2 rfl (by omega) v xs.length (nums .u8 xs) hq ad m c (nums .u8 ys) (by simp [nums, hm]) (cells_of_C HR)
      (by intro u hu; simp only [nums, List.mem_map] at hu; obtain ⟨q, _, rfl⟩ := hu; rfl) hp (by simp only [maxLen]; omega) (by omega) (Nat.zero_le _)
    refine ⟨v1, w1, hr, Q_ofInner (by rw [List.length_append, hm, nums_append]; exact h2) (fun k hk => ?_), h3, h4⟩
    rcases h4 with h4 | ⟨b, hb, hle⟩
    · exact .inl (HO.1 k (h4 ▸ hk))
    · rw [hb] at hk; injection hk with hk; subst hk; exact .inr hle
section
variable {ops : Array Oper} {rest : List Oper} {o : Oper} {a : Act} {Q : Exit → Act → World → Prop} {Kc : Act → World → Prop} {W : World} {v : Value} {xs ys : List Int} {A : Option Addr} {m c : Nat} {ok : Nat → Prop}
/-- As an operation of a list; as one step of a region that draws. -/
theorem wp_appB (HO : kB.Q 5 W 0 ok v xs) (HR : kB.C W A m ys) (hl : xs.length + m ≤ 140737488355328) (hgd : o.guard = none) (s x : Operand)
    (ho : o.op = .call { callee := .builtin .append, args := #[s, x], argTypes := #[31, 31] }) (hs : a.eval s = v) (hx : a.eval x = .slice A m c)
    (h : ∀ v1 w1, kB.Q 5 w1 0 (fun k => ok k ∨ W.heap.size ≤ k) v1 (xs ++ ys) → W.grownBy w1 v.ownBlock → (v1.ownBlock = v.ownBlock ∨ ∃ b, v1.ownBlock = some b ∧ W.heap.size ≤ b) → wpList Try.prog ops Q rest (a.put o.dst v1) w1) :
    wpList Try.prog ops Q (o :: rest) a W := by
  obtain ⟨v1, w1, hr1, h1, hg, hat⟩ := run_appB (c := c) o.type HO HR hl
  refine wpList_plain hgd fun K hK => ?_
  unfold Oper.wp execOp
  simp only [ho, resolve, invoke, builtin, Sem.run_bind, Sem.run_pure, Result.andThen_ok, List.map_toArray, List.map_cons, List.map_nil, hs, hx, hr1]
  exact hK _ _ (h v1 w1 h1 hg hat)
theorem step_appB (HO : kB.Q 5 W 0 ok v xs) (HR : kB.C W A m ys) (hl : xs.length + m ≤ 140737488355328) (hw : Region.wanted o (yielded ops a.tmps) = true) (s x : Operand)
    (ho : o.op = .call { callee := .builtin .append, args := #[s, x], argTypes := #[31, 31] }) (hs : a.eval s = v) (hx : a.eval x = .slice A m c)
    (h : ∀ v1 w1, kB.Q 5 w1 0 (fun k => ok k ∨ W.heap.size ≤ k) v1 (xs ++ ys) → W.grownBy w1 v.ownBlock → (v1.ownBlock = v.ownBlock ∨ ∃ b, v1.ownBlock = some b ∧ W.heap.size ≤ b) → Kc (a.put o.dst v1) w1) :
    if Region.wanted o (yielded ops a.tmps) = true then Oper.wp Try.prog o a W Kc Q else Kc (a.put o.dst undef) W := by
  obtain ⟨v1, w1, hr1, h1, hg, hat⟩ := run_appB (c := c) o.type HO HR hl
  rw [if_pos hw]
  unfold Oper.wp execOp
  simp only [ho, resolve, invoke, builtin, Sem.run_bind, Sem.run_pure, Result.andThen_ok, List.map_toArray, List.map_cons, List.map_nil, hs, hx, hr1]
  exact h v1 w1 h1 hg hat
end

theorem C_none {w : World} {n : Nat} {xs : List Int} (h : kB.C w none n xs) : n = 0 ∧ xs = [] := by
  have h0 : n = 0 := by
    rcases Nat.eq_zero_or_pos n with h0 | hp
    · exact h0
    · obtain ⟨ad, h', _⟩ := h.2.2 hp
      cases h'
  exact ⟨h0, List.eq_nil_of_length_eq_zero (h.1.trans h0)⟩
theorem Q_empty (w : World) : kB.Q 5 (w.alloc (.cells #[] 5)) 0 (fun k => w.heap.size ≤ k) (.slice (some ⟨w.heap.size, 0, none⟩) 0 0) [] :=
  Q_ofInner (by
    refine ⟨rfl, .inl ⟨rfl, _, rfl, fun a ha => ?_⟩⟩
    cases ha
    exact ⟨Nat.zero_le _, _, heap_alloc_new w _⟩) (fun k hk => by simp [Value.ownBlock] at hk; omega)
set_option maxHeartbeats 400000 in
/-- slices.Clone: its own row. -/
theorem clone_B (A : Option Addr) (n c : Nat) (xs : List Int) (w : World) (hC : kB.C w A n xs) (hl : n ≤ 140737488355328) :
    Calls Try.prog 92 #[.slice A n c] w fun e w' => ∃ v, e = .returned v ∧ kB.Q 5 w' 0 (fun k => w.heap.size ≤ k) v xs ∧ Below w.heap.size w w' := by
  have hn := fun w : World => Lib.run_eql_slice_nil (P := Try.prog) w 31 5 A n c 0 0 Try.underlying31
  cases A with
  | none =>
    obtain ⟨rfl, rfl⟩ := C_none hC
    clear hC
    go_enter Try.func92, Try.ntmps92
    go_wp2
    go_ret
    exact ⟨_, rfl, Kd.Q_of_R (Kd.R_nil _ _ _ _ _), Below.refl _ _⟩
  | some ad =>
    have HC := Lib.hid (Kd.C_below hC ((Below.refl _ w).alloc (Nat.le_refl _) (.cells #[] 5)))
    clear hC
    go_enter Try.func92, Try.ntmps92
    go_wp2_with (at_builtin; refine wp_appB (Q_empty w) HC.out (by simpa using hl) rfl _ _ rfl rfl rfl ?_; intro v1 w1 hq hg hat)
    go_ret
    refine ⟨_, rfl, ?_, ?_⟩
    · exact Kd.Q_mono hq (fun k hk => by simp at hk; omega)
    · exact ((Below.refl w.heap.size w).alloc (Nat.le_refl _) _).grown hg (by simp) (fun k hk => by simp [Value.ownBlock] at hk; omega)
end Go.Proofs.Ytcdhgpodoigddaa
