/-
  A frame appended to a row of frames; what that leaves of a stream; the cuts of what waits.
-/
import Derived.Test.YtcdhgpodoigddaaN1
import Derived.Test.YtcdhgpodoigddaaG1
namespace Go.Proofs.Ytcdhgpodoigddaa
open Go.RowKit Go.Proofs.YtcdhgpodoigddaaW.PrintWords Go.Proofs.YtcdhgpodoigddaaW.PrintLast Go.Proofs.YtcdhgpodoigddaaW.PrintMore
set_option linter.unusedVariables false
section
variable {ops : Array Oper} {rest : List Oper} {o : Oper} {a : Act} {Q : Exit → Act → World → Prop} {Kc : Act → World → Prop} {W : World} {v : Value} {fs : List S52} {x : S52} {cs : List Value} {base : Nat} {okp : Nat → Prop}
theorem wp_appF (HO : Kd.N k52 52 W base (fun k => base ≤ k) v fs) (hp : Kd.FK k52 W okp x cs) (hokp : ∀ k, okp k → base ≤ k ∧ some k ≠ v.ownBlock) (hbase : base ≤ W.heap.size) (hl : (fs.length + 1) * 112 ≤ 140737488355328)
    (hgd : o.guard = none) (s x' : Operand) (ho : o.op = .call { callee := .builtin .append, args := #[s, x'], argTypes := #[61, 61] }) (hs : a.eval s = v) (hx : a.eval x' = .slice (some ⟨W.heap.size, 0, none⟩) 1 1)
    (h : ∀ v1 w1, Kd.N k52 52 w1 base (fun k => base ≤ k) v1 (fs ++ [x]) → W.grownBy w1 v.ownBlock → wpList Try.prog ops Q rest (a.put o.dst v1) w1) :
    wpList Try.prog ops Q (o :: rest) a (W.alloc (.cells cs.toArray 52)) :=
  Kd.N_append k52 (w0 := W) base hgd s x' 61 52 zeroF 112 ho Try.underlying61 info52 rfl (by decide) (by decide) v fs x cs _ okp hs hx hp hokp (fun k hk => Nat.le_trans hbase hk) HO (Below.refl _ _) hbase hl (fun v1 w1 h1 _ h2 _ => h v1 w1 h1 h2)
theorem step_appF (HO : Kd.N k52 52 W base (fun k => base ≤ k) v fs) (hp : Kd.FK k52 W okp x cs) (hokp : ∀ k, okp k → base ≤ k ∧ some k ≠ v.ownBlock) (hbase : base ≤ W.heap.size) (hl : (fs.length + 1) * 112 ≤ 140737488355328)
    (hw : Region.wanted o (yielded ops a.tmps) = true) (s x' : Operand) (ho : o.op = .call { callee := .builtin .append, args := #[s, x'], argTypes := #[61, 61] }) (hs : a.eval s = v) (hx : a.eval x' = .slice (some ⟨W.heap.size, 0, none⟩) 1 1)
    (h : ∀ v1 w1, Kd.N k52 52 w1 base (fun k => base ≤ k) v1 (fs ++ [x]) → W.grownBy w1 v.ownBlock → Kc (a.put o.dst v1) w1) :
    if Region.wanted o (yielded ops a.tmps) = true then Oper.wp Try.prog o a (W.alloc (.cells cs.toArray 52)) Kc Q else Kc (a.put o.dst undef) (W.alloc (.cells cs.toArray 52)) :=
  Kd.N_append_step k52 (w0 := W) base hw s x' 61 52 zeroF 112 ho Try.underlying61 info52 rfl (by decide) (by decide) v fs x cs _ okp hs hx hp hokp (fun k hk => Nat.le_trans hbase hk) HO (Below.refl _ _) hbase hl (fun v1 w1 h1 _ h2 _ => h v1 w1 h1 h2)
end
theorem isStr_told {w : World} {ok : Nat → Prop} {g : Nat} {s : St} (h : IsStr w ok g s) : IsStr (w.setCell ⟨g, 5, none⟩ (.bool true)) ok g { s with told := true } := by
  obtain ⟨gm, v, hb, hm, hq, okg, okm⟩ := h
  exact isStr_set2 (s' := { s with told := true }) (l := 0) hb hm okg okm 5 _ (q_far hq hb (by decide) _ _) (by simp)
theorem isRef_told {w : World} {ok : Nat → Prop} {g : Nat} {s : St} (h : IsRef w ok g s) : IsRef (w.setCell ⟨g, 5, none⟩ (.bool true)) ok g { s with told := true } := by
  obtain ⟨gm, v, hb, hm, hq, okg, okm⟩ := h
  exact isRef_set2 (s' := { s with told := true }) (l := 0) hb hm okg okm 5 _ (q_far hq hb (by decide) _ _) (by simp)
theorem isStr_grown {W w1 : World} {ok : Nat → Prop} {g : Nat} {s : St} {v : Value} (h : IsStr W ok g s) (hty : ∀ k, v.ownBlock = some k → ∃ cells, W.heap[k]? = some (.cells cells 52 (0, 0))) (hg : W.grownBy w1 v.ownBlock) : IsStr w1 ok g s := by
  obtain ⟨gm, u, hb, hm, hq, okg, okm⟩ := h
  have ne : ∀ {k t cs}, W.heap[k]? = some (.cells cs t (0, 0)) → t ≠ 52 → some k ≠ v.ownBlock := by
    intro k t cs hk ht he
    obtain ⟨cells, hc⟩ := hty k he.symm
    rw [hk] at hc
    injection hc with hc
    injection hc with _ hc
    exact ht hc
  exact ⟨gm, u, (hg.block _ (blk_lt hb) (ne hb (by decide))).trans hb, (hg.block _ (blk_lt hm) (ne hm (by decide))).trans hm, Kd.Q_over' hq hty (by intro q hq; simp [Kd.int, Kd.scalar] at hq; omega) hg, okg, okm⟩
theorem isRef_grown {W w1 : World} {ok : Nat → Prop} {g : Nat} {s : St} {v : Value} (h : IsRef W ok g s) (hty : ∀ k, v.ownBlock = some k → ∃ cells, W.heap[k]? = some (.cells cells 52 (0, 0))) (hg : W.grownBy w1 v.ownBlock) : IsRef w1 ok g s := by
  obtain ⟨gm, u, hb, hm, hq, okg, okm⟩ := h
  have ne : ∀ {k t cs}, W.heap[k]? = some (.cells cs t (0, 0)) → t ≠ 52 → some k ≠ v.ownBlock := by
    intro k t cs hk ht he
    obtain ⟨cells, hc⟩ := hty k he.symm
    rw [hk] at hc
    injection hc with hc
    injection hc with _ hc
    exact ht hc
  exact ⟨gm, u, (hg.block _ (blk_lt hb) (ne hb (by decide))).trans hb, (hg.block _ (blk_lt hm) (ne hm (by decide))).trans hm, Kd.Q_over' hq hty (by intro q hq; simp [Kd.int, Kd.scalar] at hq; omega) hg, okg, okm⟩
theorem blk_grown {W w1 : World} {v : Value} {k t : Nat} {cs : Array Value} (hb : W.heap[k]? = some (.cells cs t (0, 0))) (ht : t ≠ 52) (hty : ∀ k, v.ownBlock = some k → ∃ cells, W.heap[k]? = some (.cells cells 52 (0, 0))) (hg : W.grownBy w1 v.ownBlock) : w1.heap[k]? = some (.cells cs t (0, 0)) := by
  refine (hg.block _ (blk_lt hb) fun he => ?_).trans hb
  obtain ⟨cells, hc⟩ := hty k he.symm
  rw [hb] at hc
  injection hc with hc
  injection hc with _ hc
  exact ht hc
theorem cutB_to (A : Option Addr) (n c k : Nat) (hk : k ≤ n) (hc : n ≤ c) : ∀ W : World, (Instr.slice 31 (.slice A n c) none (some (.int .i64 (k : Int))) none).run Try.prog W = .ok (.slice A k c) W := by
  obtain ⟨i0, hi, hz0, hz1, hz2⟩ := info_parts info5
  have := cut_to (P := Try.prog) 31 5 .i64 Try.underlying31 hi A n c (k : Int) (by omega) (by omega) hc
  simpa using this
theorem cutB_from (A : Option Addr) (n c k : Nat) (hk : k ≤ n) : ∃ A', (∀ W : World, (Instr.slice 31 (.slice A n c) (some (.int .i64 (k : Int))) none none).run Try.prog W = .ok (.slice A' (n - k) (c - k)) W) ∧
    ∀ W ok (b : List Int), kB.Q 5 W 0 ok (.slice A n c) b → kB.Q 5 W 0 ok (.slice A' (n - k) (c - k)) (b.drop k) := by
  obtain ⟨i0, hi, hz0, hz1, hz2⟩ := info_parts info5
  refine ⟨if c = k then A else A.map (·.add (k * 1)), ?_, ?_⟩
  · have := cut_from (P := Try.prog) 31 5 .i64 Try.underlying31 hi 1 hz1 A n c (k : Int) (by omega) (by omega)
    simpa using this
  · intro W ok b hq
    have hn := (Kd.Q_reads' hq).1
    have := Kd.Q_drop (k := k) hq (by omega)
    exact this
end Go.Proofs.Ytcdhgpodoigddaa
