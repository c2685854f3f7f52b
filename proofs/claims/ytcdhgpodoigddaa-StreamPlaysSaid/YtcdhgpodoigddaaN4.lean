/-
  Next on a stream of the reference.
-/
import Derived.Test.YtcdhgpodoigddaaN3
import Derived.Test.YtcdhgpodoigddaaG2
namespace Go.Proofs.Ytcdhgpodoigddaa
open Go.RowKit Go.Proofs.YtcdhgpodoigddaaW.PrintWords Go.Proofs.YtcdhgpodoigddaaW.PrintLast Go.Proofs.YtcdhgpodoigddaaW.PrintMore
set_option linter.unusedVariables false
set_option linter.unusedSimpArgs false
attribute [local go_sem] max2_max min2_min max_two min_two
def RefAt (w : World) (g gm : Nat) (okq : Nat → Prop) (s : St) : Prop := ∃ A c,
  w.heap[g]? = some (.cells #[.int .i64 s.id, .int .i64 s.others, .pointer (some ⟨gm, 0, none⟩), .slice A s.wait.length c, .bool s.ended, .bool s.told, .bool s.over, .bool s.cut] 67 (0, 0)) ∧
  w.heap[gm]? = some (.cells #[.int .i64 s.left] 174 (0, 0)) ∧ kB.Q 5 w 0 okq (.slice A s.wait.length c) s.wait ∧ s.wait.length ≤ c
theorem RefAt.is {w : World} {g gm : Nat} {okq : Nat → Prop} {s : St} (h : RefAt w g gm okq s) (okg : okq g) (okm : okq gm) : IsRef w okq g s := by
  obtain ⟨A, c, hb, hm, hq, _⟩ := h
  exact ⟨gm, _, hb, hm, hq, okg, okm⟩
theorem bPos (b : List Int) : (b.length < 1 ∧ ((b.length : Int) == 0) = true ∧ b = []) ∨ (0 < b.length ∧ ((b.length : Int) == 0) = false) := by
  cases b with
  | nil => exact .inl ⟨by simp, rfl, rfl⟩
  | cons x xs => exact .inr ⟨by simp, beq_eq_false_iff_ne.mpr (by simp; omega)⟩
theorem pieceN_nil (l : Int) : pieceN l [] = 0 := by unfold pieceN; simp; omega
set_option maxHeartbeats 8000000 in
set_option maxRecDepth 100000 in
theorem next_r {ok : Nat → Prop} (g : Nat) (s : St) (w : World) (h : IsRef w ok g s) (hf : s.Fit) :
    Calls Try.prog 37 #[.pointer (some ⟨g, 0, none⟩)] w (NextP IsRef ok g s w) := by
  have hI0 := isRef_bound h
  rcases hcut : s.cut with _ | _
  rotate_left
  · obtain ⟨gm, v, hb, hm, hq, okg, okm⟩ := h
    obtain ⟨c0, c1, c2, c3, c4, c5, c6, c7⟩ := blk8 hb
    have HN := Lib.hid (next_cut hcut)
    have HI := Lib.hid (isRef_mono (ok' := fun k => ok k ∨ w.heap.size ≤ k) hI0 (fun k hk => .inl hk.1))
    rw [hcut] at c7
    clear hcut c0 c1 c2 c3 c4 c5 c6 hb hm hq hI0
    go_enter Try.func37, Try.ntmps37
    go_wp2_with fail
    go_ret
    exact ⟨none, 0, 0, rfl, by rw [HN.out]; exact nilVF _ _, by rw [HN.out]; exact HI.out, Mod.refl _ _⟩
  · obtain ⟨gm, v0, hb0, hm0, hq0, okg, okm⟩ := hI0
    obtain ⟨A0, cap0, rfl, hcap0⟩ := Kd.Q_slice hq0
    have HA : Hid (NextInv (fun wr s' => RefAt wr g gm (fun k => ok k ∨ w.heap.size ≤ k) s') ok s w s.wait.length (.slice none 0 0) w) := Lib.hid ⟨[], s.left, s.wait, rfl, hf.left0, hf.left1, rfl, Kd.N_nil _ _ _ _ _, ⟨A0, cap0, hb0, hm0, Kd.Q_mono hq0 (fun k hk => .inl hk.1), hcap0⟩, Mod.refl _ _, by have := hf.wait1; simpa using this⟩
    obtain ⟨c0, c1, c2, c3, c4, c5, c6, c7⟩ := blk8 hb0
    have hokg := okg.1
    have hokm := okm.1
    have hgw := okg.2
    have hgmw := okm.2
    have HC := Lib.hid hcut
    rw [hcut] at c7
    clear hcut c0 c1 c2 c3 c4 c5 c6 hb0 hm0 hq0 okg okm hcap0
    go_enter Try.func37, Try.ntmps37
    go_wp2_with fail
    go_loopg [3, 4] s.wait.length (fun k o nn wr => NextInv (fun wr s' => RefAt wr g gm (fun k => ok k ∨ w.heap.size ≤ k) s') ok s w k o wr)
    case atStart => exact HA.out
    case round =>
      obtain ⟨fs, l, b, hk, l0, l1, hp, hN, hI, hM, hlen⟩ := hrel
      obtain ⟨Ao, co, rfl⟩ := Kd.N_slice hN
      have HNl := Lib.hid (Kd.N_lt hN)
      have hsz : w.heap.size ≤ wr.heap.size := hM.size
      have HI := Lib.hid hI
      obtain ⟨A, c, hb, hm, hq, hbc⟩ := hI
      dsimp only at hb hm hq hbc
      obtain ⟨c0, c1, c2, c3, c4, c5, c6, _⟩ := blk8 hb
      have hlt := blk_lt hb
      have hltm := blk_lt hm
      have hne : g ≠ gm := blk_ne hb hm (by decide)
      have hne' : gm ≠ g := Ne.symm hne
      have f5 := blk_frozen hb 5
      have f3 := blk_frozen hb 3
      have HB := Lib.hid hb
      have HM := Lib.hid hm
      have HQ := Lib.hid hq
      have HNr := Lib.hid hN
      have HMod := Lib.hid hM
      clear hb hm hq hN hM
      rcases bPos b with ⟨dgt, hz, hbn⟩ | ⟨dgt, hz⟩
      · have hps := next_stop hp (by rw [hbn]; exact pieceN_nil l)
        rcases he : s.ended with _ | _ <;> rw [he] at c4
        · have HX := Lib.hid (next_no HC.out hps (by rw [hz, he]; rfl))
          clear he hbn hps hp hk hz
          go_wp2_with fail
          go_ret
          exact ⟨Ao, fs.length, co, rfl, by rw [HX.out]; exact Kd.N_V HNr.out, by rw [HX.out]; exact HI.out.is (.inl hokg) (.inl hokm), HMod.out⟩
        · rcases ht : s.told with _ | _ <;> rw [ht] at c5
          · have HX := Lib.hid (next_end HC.out hps (by rw [hz, he, ht]; rfl))
            have HT := Lib.hid (isRef_told (HI.out.is (.inl hokg) (.inl hokm)))
            have HN5 := fun u => Lib.hid (Kd.N_far (p := ⟨g, 5, none⟩) HNr.out (fun k hk => by simp; omega) u)
            clear he hbn ht hps hp hk hz
            go_wp2_with (first | (at_builtin; refine wp_appF (okp := fun _ => False) (HN5 _).out (FK_frame _ _ 4 s.id 0 0) (fun _ h => h.elim) (by simp; omega) (by omega) rfl _ _ rfl rfl (by simp [Act.eval, Act.put]) ?_; intro v1 w1 hN1' hg1; obtain ⟨A1, ca, rfl⟩ := Kd.N_slice hN1'; rw [List.length_append] at hN1'))
            go_ret
            exact ⟨A1, _, ca, rfl, by rw [HX.out]; exact Kd.N_V hN1', by rw [HX.out]; exact isRef_grown HT.out (Kd.N_typed (HN5 _).out) hg1, Mod.grown (HMod.out.setCell (p := ⟨g, 5, none⟩) (.inl hokg) _) hg1 (fun k hk => .inr (Kd.N_base HNr.out k hk))⟩
          · have HX := Lib.hid (next_no HC.out hps (by rw [hz, he, ht]; rfl))
            clear he hbn ht hps hp hk hz
            go_wp2_with fail
            go_ret
            exact ⟨Ao, fs.length, co, rfl, by rw [HX.out]; exact Kd.N_V HNr.out, by rw [HX.out]; exact HI.out.is (.inl hokg) (.inl hokm), HMod.out⟩
      · obtain ⟨n0, hn0⟩ : ∃ n0, pieceN l b = n0 := ⟨_, rfl⟩
        have HN2 : Hid (max 0 (min (min 1000 (b.length : Int)) l) = (n0 : Int)) := Lib.hid (hn0 ▸ pieceN_eq' l b)
        have hnle : n0 ≤ b.length := hn0 ▸ pieceN_le l b
        have hnl : (n0 : Int) ≤ l := hn0 ▸ pieceN_left b l0
        have HM0 : Hid (wr.drew.heap[gm]? = some (.cells #[.int .i64 l] 174 (0, 0))) := Lib.hid HM.out
        obtain ⟨W1, hW1⟩ : ∃ W1, (wr.setCell ⟨gm, 0, none⟩ (.int .i64 (l - n0))).drew = W1 := ⟨_, rfl⟩
        have HW1 := Lib.hid hW1
        have HQ1 : Hid (kB.Q 5 W1 0 (fun k => ok k ∨ w.heap.size ≤ k) (.slice A b.length c) b) := Lib.hid (hW1 ▸ Kd.Q_drew (q_far HQ.out (g := gm) HM.out (by decide) 0 _))
        have HB1 : Hid (W1.heap[g]? = some (.cells #[.int .i64 s.id, .int .i64 s.others, .pointer (some ⟨gm, 0, none⟩), .slice A b.length c, .bool s.ended, .bool s.told, .bool s.over, .bool s.cut] 67 (0, 0))) := Lib.hid (hW1 ▸ blk_far HB.out (p := ⟨gm, 0, none⟩) hne _)
        have HM1 : Hid (W1.heap[gm]? = some (.cells #[.int .i64 (l - n0)] 174 (0, 0))) := Lib.hid (by
          have q := blk_set HM.out 0 (.int .i64 (l - n0))
          rw [show (#[Value.int .i64 l] : Array Value).setIfInBounds 0 (.int .i64 (l - n0)) = #[.int .i64 (l - n0)] from rfl] at q
          rw [← hW1]; exact q)
        have HN1d : Hid (Kd.N k52 52 W1 w.heap.size (fun k => w.heap.size ≤ k) (.slice Ao fs.length co) fs) := Lib.hid (hW1 ▸ Kd.N_drew (Kd.N_far (p := ⟨gm, 0, none⟩) HNr.out (fun k hk => by simp; omega) _))
        have HMo1 : Hid (Mod ok w W1) := Lib.hid (hW1 ▸ (HMod.out.setCell (p := ⟨gm, 0, none⟩) (.inl hokm) _).drew)
        have hs1 : wr.heap.size = W1.heap.size := by rw [← hW1]; simp
        obtain ⟨d0, d1, d2, d3, d4, d5, d6, d7⟩ := blk8 HB1.out
        clear d1 d2 d4 d5 d6 d7
        rcases Nat.eq_zero_or_pos n0 with h0 | h0
        · have hps := next_stop hp (hn0.trans h0)
          have HX := Lib.hid (next_no HC.out hps (by rw [hz]; rfl))
          have HF : Hid (IsRef W1 (fun k => ok k ∨ w.heap.size ≤ k) g { s with left := l, wait := b }) := Lib.hid ⟨gm, _, HB1.out, by rw [HM1.out, h0]; simp, HQ1.out, .inl hokg, .inl hokm⟩
          have HW0 : Hid ((wr.setCell ⟨gm, 0, none⟩ (.int .i64 l)).drew = W1) := Lib.hid (by rw [← hW1, h0]; simp)
          subst h0
          clear hps hp hn0 hk hz hW1
          go_wp2_with fail
          refine wp_region_still_tail 10 (by kernel_rfl) (by kernel_rfl) ?_
          simp only [List.take_succ_cons, List.take_zero, List.drop_succ_cons, List.drop_zero]
          iterate 10 still_step
          refine wpStill_nil ?_
          change wpList _ _ _ _ _ wr.drew
          go_wp2_with (first | (go_at_call 93; refine (ctake_r gm l _ _ HM0.out l0 l1).mono ?_; rw [HN2.out]; rintro e w1 ⟨rfl, rfl⟩))
          go_ret
          rw [HW0.out]
          exact ⟨Ao, fs.length, co, rfl, by rw [HX.out]; exact Kd.N_V HN1d.out, by rw [HX.out]; exact HF.out, HMo1.out⟩
        · have hnz : ((n0 : Int) == 0) = false := beq_eq_false_iff_ne.mpr (by omega)
          have hNS := nextInv_step hp (by omega)
          rw [hn0] at hNS
          obtain ⟨A', hcf, hqf⟩ := cutB_from A b.length c n0 hnle
          have hct := cutB_to A b.length c n0 hnle hbc
          obtain ⟨bt, hbt⟩ : ∃ bt, b.take n0 = bt := ⟨_, rfl⟩
          have hbl : bt.length = n0 := by rw [← hbt, List.length_take, Nat.min_eq_left hnle]
          rw [hbt] at hNS
          have HNS := Lib.hid hNS
          have HC1 : Hid (kB.C W1 A n0 bt) := Lib.hid (by
            have h1 := Q_C (Kd.Q_take HQ1.out hnle)
            rw [hbt, hbl] at h1; exact h1)
          have HBL := Lib.hid hbl
          have hbl2 : n0 ≤ 140737488355328 := by omega
          have hbl3 : b.length - n0 ≤ 140737488355328 := by omega
          have HK := Lib.hid hk
          clear hp hNS hbt hn0 hk hz hW1 hbl
          go_wp2_with fail
          refine wp_region_still_tail 10 (by kernel_rfl) (by kernel_rfl) ?_
          simp only [List.take_succ_cons, List.take_zero, List.drop_succ_cons, List.drop_zero]
          iterate 10 still_step
          refine wpStill_nil ?_
          change wpList _ _ _ _ _ wr.drew
          go_wp2_with (first | (go_at_call 93; refine (ctake_r gm l _ _ HM0.out l0 l1).mono ?_; rw [HN2.out]; rintro e w1 ⟨rfl, rfl⟩))
          rw [HW1.out]
          go_region_held3 (fun w' => w'.cell? ⟨g, 0, none⟩ = some (.int .i64 s.id) ∧ w'.cell? ⟨g, 3, none⟩ = some (.slice A b.length c)) (go_keep)
            ((first | (refine step_cloneB (Kd.C_drew HC1.out) hbl2 (by rfl) _ _ (by rfl) (by rfl) (by rfl) ?_; intro A2 c2' w2 hq2 hc2 hb2; have HN_2 := Lib.hid (Kd.N_below (Kd.N_drew HN1d.out) hb2); have HFK : Hid (Kd.FK k52 w2 (fun k => W1.heap.size ≤ k) (dataD s.id bt) [.int .i64 3, .int .i64 s.id, .int .i64 0, .int .i64 0, .int .i64 0, .slice none 0 0, .string ⟨#[]⟩, .int .i64 0, .slice A2 n0 c2']) := Lib.hid (by have hbl := HBL.out; rw [← hbl] at hq2 hc2 ⊢; exact k52_mkF w2 _ ⟨3, s.id, 0, 0, z50, bt⟩ (A5 := none) (c5 := 0) (Nat.le_refl _) (Kd.F_nil _ _ _) (A8 := A2) (c8 := c2') hc2 (Kd.V_F (Kd.Q_V (base' := 0) hq2))); have HB_2 := Lib.hid ((hb2.block _ (blk_lt HB1.out)).trans HB1.out); have HM_2 := Lib.hid ((hb2.block _ (blk_lt HM1.out)).trans HM1.out); obtain ⟨q0, _, _, q3, _, _, _, _⟩ := blk8 HB_2.out; have HQ_2 := Lib.hid (Kd.Q_below (Kd.Q_drew HQ1.out) hb2); have hs2 : W1.heap.size ≤ w2.heap.size := hb2.size) | (refine step_appF HN_2.out HFK.out (fun k hk => ⟨by have h2 : W1.heap.size ≤ k := hk; omega, fun he => by have h1 := HNl.out k he.symm; have h2 : W1.heap.size ≤ k := hk; omega⟩) (by omega) (by omega) (by rfl) _ _ (by rfl) (by rfl) (by simp [Act.eval, Act.put]) ?_; intro v1 w3 hN3 hg3; obtain ⟨A3, c3', rfl⟩ := Kd.N_slice hN3; rw [List.length_append] at hN3; have HB_3 := Lib.hid (blk_grown HB_2.out (by decide) (Kd.N_typed HN_2.out) hg3); have HM_3 := Lib.hid (blk_grown HM_2.out (by decide) (Kd.N_typed HN_2.out) hg3); obtain ⟨g0, _, _, g3, _, _, _, _⟩ := blk8 HB_3.out; have HR3 : Hid (kB.C w3 A' (b.length - n0) (b.drop n0)) := Lib.hid (by have q := Q_C (hqf w3 _ b (Kd.Q_over' HQ_2.out (Kd.N_typed HN_2.out) (by intro q hq; simp [Kd.int, Kd.scalar] at hq; omega) hg3)); rw [List.length_drop] at q; exact q))))
          go_wp2_with (first | (at_builtin; refine wp_cloneB HR3.out hbl3 rfl _ _ rfl rfl rfl ?_; intro A4 c4' w4 hq4 hc4 hb4; have HB_4 := Lib.hid ((hb4.block _ (blk_lt HB_3.out)).trans HB_3.out); have HM_4 := Lib.hid ((hb4.block _ (blk_lt HM_3.out)).trans HM_3.out); have e3 := blk_frozen HB_4.out 3; obtain ⟨_, _, _, k3, _, _, _, _⟩ := blk8 HB_4.out))
          go_roundg (b.length - n0)
          case measure =>
            have := HK.out
            omega
          case rel =>
            have hs3 : w.heap.size ≤ w3.heap.size := (Mod.grown (HMo1.out.drew.ofBelow hb2) hg3 (fun k hk => .inr (Kd.N_base HNr.out k hk))).size
            have hb5 := blk_set HB_4.out 3 (.slice A4 (b.length - n0) c4')
            exact ⟨fs ++ [dataD s.id bt], l - n0, b.drop n0, List.length_drop, by omega, by omega, HNS.out, Kd.N_far (p := ⟨g, 3, none⟩) (Kd.N_below hN3 hb4) (fun k hk => by simp; omega) _,
              ⟨A4, c4', by rw [hb5, List.length_drop]; simp, blk_far HM_4.out (p := ⟨g, 3, none⟩) hne' _, by rw [List.length_drop]; exact q_far (Kd.Q_mono hq4 (fun k hk => .inr (Nat.le_trans hs3 hk))) HB_4.out (by decide) 3 _, by rw [List.length_drop]; exact hc4⟩,
              ((Mod.grown (HMo1.out.drew.ofBelow hb2) hg3 (fun k hk => .inr (Kd.N_base HNr.out k hk))).ofBelow hb4).setCell (.inl hokg) _, by rw [List.length_append, List.length_drop]; simp; omega⟩
end Go.Proofs.Ytcdhgpodoigddaa
