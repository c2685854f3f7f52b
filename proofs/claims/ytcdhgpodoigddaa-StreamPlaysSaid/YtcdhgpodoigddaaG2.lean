/-
  A frame that a stream of the reference gets.
-/
import Derived.Test.YtcdhgpodoigddaaG1
import Derived.Test.YtcdhgpodoigddaaF9
import Derived.RegionTactic
namespace Go.Proofs.Ytcdhgpodoigddaa
open Go.RowKit Go.Proofs.YtcdhgpodoigddaaW.PrintWords Go.Proofs.YtcdhgpodoigddaaW.PrintLast Go.Proofs.YtcdhgpodoigddaaW.PrintMore
set_option linter.unusedVariables false
set_option linter.unusedSimpArgs false
attribute [local go_sem] max2_max min2_min max_two min_two
theorem done_qr {ok : Nat → Prop} {g : Nat} {s : St} {w : World} {b : Bool} (hd : s.done = b) (h : IsRef w ok g s) :
    Calls Try.prog 41 #[.pointer (some ⟨g, 0, none⟩)] w fun e w' => e = .returned (.bool b) ∧ w' = w := (done_r g s w h).mono (fun e w' q => ⟨by rw [← hd]; exact q.1, q.2.symm⟩)
section
variable {ops : Array Oper} {rest : List Oper} {o : Oper} {a : Act} {Q : Exit → Act → World → Prop} {Kc : Act → World → Prop} {W : World} {ys : List Int} {A : Option Addr} {m c : Nat}
theorem wp_cloneB (HR : kB.C W A m ys) (hl : m ≤ 140737488355328) (hgd : o.guard = none) (s x : Operand)
    (ho : o.op = .call { callee := .builtin .append, args := #[s, x], argTypes := #[31, 31] }) (hs : a.eval s = .slice none 0 0) (hx : a.eval x = .slice A m c)
    (h : ∀ A1 c1 w1, kB.Q 5 w1 0 (fun k => W.heap.size ≤ k) (.slice A1 m c1) ys → m ≤ c1 → Below W.heap.size W w1 → wpList Try.prog ops Q rest (a.put o.dst (.slice A1 m c1)) w1) :
    wpList Try.prog ops Q (o :: rest) a W :=
  wp_appB (v := .slice none 0 0) (xs := []) (ok := fun _ => False) (Kd.Q_nil _ _ _ _ _) HR (by simpa using hl) hgd s x ho hs hx (fun v1 w1 hq hg hat => by
    rw [List.nil_append] at hq
    obtain ⟨A1, c1, rfl, hc⟩ := Kd.Q_slice hq
    have hm : ys.length = m := HR.1
    rw [hm] at hq hc ⊢
    exact h A1 c1 w1 (Kd.Q_mono hq (fun k hk => hk.elim False.elim id)) hc ((Below.refl W.heap.size W).grown hg (Nat.le_refl _) (fun k hk => by cases hk)))
theorem step_cloneB (HR : kB.C W A m ys) (hl : m ≤ 140737488355328) (hw : Region.wanted o (yielded ops a.tmps) = true) (s x : Operand)
    (ho : o.op = .call { callee := .builtin .append, args := #[s, x], argTypes := #[31, 31] }) (hs : a.eval s = .slice none 0 0) (hx : a.eval x = .slice A m c)
    (h : ∀ A1 c1 w1, kB.Q 5 w1 0 (fun k => W.heap.size ≤ k) (.slice A1 m c1) ys → m ≤ c1 → Below W.heap.size W w1 → Kc (a.put o.dst (.slice A1 m c1)) w1) :
    if Region.wanted o (yielded ops a.tmps) = true then Oper.wp Try.prog o a W Kc Q else Kc (a.put o.dst undef) W :=
  step_appB (v := .slice none 0 0) (xs := []) (ok := fun _ => False) (Kd.Q_nil _ _ _ _ _) HR (by simpa using hl) hw s x ho hs hx (fun v1 w1 hq hg hat => by
    rw [List.nil_append] at hq
    obtain ⟨A1, c1, rfl, hc⟩ := Kd.Q_slice hq
    have hm : ys.length = m := HR.1
    rw [hm] at hq hc ⊢
    exact h A1 c1 w1 (Kd.Q_mono hq (fun k hk => hk.elim False.elim id)) hc ((Below.refl W.heap.size W).grown hg (Nat.le_refl _) (fun k hk => by cases hk)))
end
theorem over_self {s : St} (h : s.over = true) : ({ s with over := true } : St) = s := by cases s; simp at h; subst h; rfl
set_option maxHeartbeats 4000000 in
set_option maxRecDepth 100000 in
theorem got_r {ok : Nat → Prop} (g : Nat) (s : St) (x : S52) (A A' : Option Addr) (c c' : Nat) (w : World) (h : IsRef w ok g s) (h0 : 0 ≤ s.left) (h1 : s.left ≤ 65536) (hx : kB.C w A x.f4.f1.length x.f4.f1) (hx' : kB.C w A' x.f5.length x.f5) (hlc : x.f5.length ≤ c') (hs : x.f4.f2.size ≤ 9223372036854775807) (hlen : x.f5.length ≤ 140737488355328) :
    Calls Try.prog 39 #[.pointer (some ⟨g, 0, none⟩), .agg #[.int .i64 x.f0, .int .i64 x.f1, .int .i64 x.f2, .int .i64 x.f3, .int .i64 x.f4.f0, .slice A x.f4.f1.length c, .string x.f4.f2, .int .i64 x.f4.f3, .slice A' x.f5.length c']] w (GotP IsRef ok g w (s.heard x)) := by
  have hb0 := h
  have hB0 : ∀ o, Below w.heap.size w (w.alloc o) := fun o => (Below.refl _ w).alloc (Nat.le_refl _) o
  have hBN : ∀ o n, Below w.heap.size w ((w.alloc o).drewN n) := fun o n => pw_below_drewN (hB0 o) n
  have HA : ∀ o, Hid (IsRef (w.alloc o).drew ok g s) := fun o => Lib.hid (isRef_below h ((hB0 o).drew))
  have HAN : ∀ o n, Hid (IsRef ((w.alloc o).drewN n) ok g s) := fun o n => Lib.hid (isRef_below h (hBN o n))
  have HX : ∀ o, Hid (kB.C (w.alloc o).drew A x.f4.f1.length x.f4.f1) := fun o => Lib.hid (Kd.C_below hx ((hB0 o).drew))
  have HX' : ∀ o, Hid (kB.C (w.alloc o).drew A' x.f5.length x.f5) := fun o => Lib.hid (Kd.C_below hx' ((hB0 o).drew))
  obtain ⟨gm, v, hb, hm, hq, okg, okm⟩ := hb0
  obtain ⟨c0, c1, c2, c3, c4, c5, c6, c7⟩ := blk8 hb
  have hlt := blk_lt hb
  have HC := Lib.hid hx'
  clear h hb hx hx' hm hq c3 c4 c5 c7 c1 c2 c6
  go_enter Try.func39, Try.ntmps39
  go_upto_region 1 with fail
  go_cut [23] (fun s23 wx => s23 = .bool (!s.gotOk x) ∧ Hid (IsRef wx ok g s) ∧ Below w.heap.size w wx ∧ Hid (wx.heap[w.heap.size]? = some (.cells #[.int .i64 x.f0, .int .i64 x.f1, .int .i64 x.f2, .int .i64 x.f3, .int .i64 x.f4.f0, .slice A x.f4.f1.length c, .string x.f4.f2, .int .i64 x.f4.f3, .slice A' x.f5.length c'] 52 (0, 0))))
  case first =>
    rcases hd : s.done with _ | _
    · rcases hf : frameB x with _ | _
      · have HD := Lib.hid hd
        have HF := Lib.hid hf
        have HO : Hid (s.gotOk x = false) := Lib.hid (by unfold St.gotOk; rw [hd, hf, Bool.and_false, Bool.and_false])
        clear hd hf
        (first | go_region_with ((first | (go_at_call 41; refine (done_r _ s _ (HA _).out).mono ?_; rw [HD.out]; rintro e w' ⟨rfl, rfl⟩) | (go_at_call 96; refine (mayFrame_r x _ _ _ _ _ (HX _).out (HX' _).out hs).mono ?_; rw [HF.out]; rintro e w1 ⟨rfl, hb1⟩; obtain ⟨bc, bf⟩ := bcell hb1; have hB1 := (hB0 _).drew.trans (hb1.mono (by simp)); have hc0 := (hB1.cell (p := ⟨g, 0, none⟩) hlt).trans c0))) | fail)
        all_goals go_wp2_with fail
        all_goals go_meet
        all_goals exact ⟨by rw [HO.out]; rfl, Lib.hid (isRef_below (HA _).out hb1), hB1, Lib.hid ((hb1.block _ (by simp)).trans (heap_alloc_new _ _))⟩
      · rcases ei : (x.f1 == s.id) with _ | _
        · have HD := Lib.hid hd
          have HF := Lib.hid hf
          have en : (x.f1 != s.id) = true := by simp [bne, ei]
          have HO : Hid (s.gotOk x = false) := Lib.hid (by unfold St.gotOk; rw [hd, hf, ei]; rfl)
          clear hd hf
          go_region_held3 (fun w' => w'.cell? ⟨g, 0, none⟩ = some (.int .i64 s.id) ∧ w'.cell? ⟨w.heap.size, 0, none⟩ = some (.int .i64 x.f0) ∧ w'.cell? ⟨w.heap.size, 1, none⟩ = some (.int .i64 x.f1) ∧ w'.cell? ⟨w.heap.size, 2, none⟩ = some (.int .i64 x.f2) ∧ w'.cell? ⟨w.heap.size, 3, none⟩ = some (.int .i64 x.f3) ∧ w'.cell? ⟨w.heap.size, 4, none⟩ = some (.int .i64 x.f4.f0) ∧ w'.cell? ⟨w.heap.size, 5, none⟩ = some (.slice A x.f4.f1.length c) ∧ w'.cell? ⟨w.heap.size, 6, none⟩ = some (.string x.f4.f2) ∧ w'.cell? ⟨w.heap.size, 7, none⟩ = some (.int .i64 x.f4.f3) ∧ w'.cell? ⟨w.heap.size, 8, none⟩ = some (.slice A' x.f5.length c')) (go_keep)
            ((first | (go_at_call 41; refine (done_r _ s _ (HA _).out).mono ?_; rw [HD.out]; rintro e w' ⟨rfl, rfl⟩) | (go_at_call 96; refine (mayFrame_r x _ _ _ _ _ (HX _).out (HX' _).out hs).mono ?_; rw [HF.out]; rintro e w1 ⟨rfl, hb1⟩; obtain ⟨bc, bf⟩ := bcell hb1; have hB1 := (hB0 _).drew.trans (hb1.mono (by simp)); have hc0 := (hB1.cell (p := ⟨g, 0, none⟩) hlt).trans c0)))
          go_wp2_with fail
          all_goals go_meet
          all_goals exact ⟨by rw [HO.out]; rfl, Lib.hid (isRef_below (HA _).out hb1), hB1, Lib.hid ((hb1.block _ (by simp)).trans (heap_alloc_new _ _))⟩
        · have HD := Lib.hid hd
          have HF := Lib.hid hf
          have en : (x.f1 != s.id) = false := by simp [bne, ei]
          have HO : Hid (s.gotOk x = true) := Lib.hid (by unfold St.gotOk; rw [hd, hf, ei]; rfl)
          clear hd hf
          go_region_held3 (fun w' => w'.cell? ⟨g, 0, none⟩ = some (.int .i64 s.id) ∧ w'.cell? ⟨w.heap.size, 0, none⟩ = some (.int .i64 x.f0) ∧ w'.cell? ⟨w.heap.size, 1, none⟩ = some (.int .i64 x.f1) ∧ w'.cell? ⟨w.heap.size, 2, none⟩ = some (.int .i64 x.f2) ∧ w'.cell? ⟨w.heap.size, 3, none⟩ = some (.int .i64 x.f3) ∧ w'.cell? ⟨w.heap.size, 4, none⟩ = some (.int .i64 x.f4.f0) ∧ w'.cell? ⟨w.heap.size, 5, none⟩ = some (.slice A x.f4.f1.length c) ∧ w'.cell? ⟨w.heap.size, 6, none⟩ = some (.string x.f4.f2) ∧ w'.cell? ⟨w.heap.size, 7, none⟩ = some (.int .i64 x.f4.f3) ∧ w'.cell? ⟨w.heap.size, 8, none⟩ = some (.slice A' x.f5.length c')) (go_keep)
            ((first | (go_at_call 41; refine (done_r _ s _ (HA _).out).mono ?_; rw [HD.out]; rintro e w' ⟨rfl, rfl⟩) | (go_at_call 96; refine (mayFrame_r x _ _ _ _ _ (HX _).out (HX' _).out hs).mono ?_; rw [HF.out]; rintro e w1 ⟨rfl, hb1⟩; obtain ⟨bc, bf⟩ := bcell hb1; have hB1 := (hB0 _).drew.trans (hb1.mono (by simp)); have hc0 := (hB1.cell (p := ⟨g, 0, none⟩) hlt).trans c0)))
          go_wp2_with fail
          all_goals go_meet
          all_goals exact ⟨by rw [HO.out]; rfl, Lib.hid (isRef_below (HA _).out hb1), hB1, Lib.hid ((hb1.block _ (by simp)).trans (heap_alloc_new _ _))⟩
    · have HD := Lib.hid hd
      have HO : Hid (s.gotOk x = false) := Lib.hid (by unfold St.gotOk; rw [hd]; rfl)
      clear hd
      go_quiet ((go_at_call 41; exact Calls.quiet_of_same (done_qr HD.out (HAN _ _).out)))
      (go_wp2_with fail; go_meet)
      exact ⟨by rw [HO.out]; rfl, HAN _ _, (hBN _ _), Lib.hid (heap_alloc_new _ _)⟩
  case rest =>
    obtain ⟨he, HI, hB, HBK⟩ := hcut
    have HIW : ∀ W, Below wc.heap.size wc W → IsRef W ok g s := fun W hW => isRef_below HI.out hW
    have hBW : ∀ W, Below wc.heap.size wc W → Below w.heap.size w W := fun W hW => hB.trans (hW.mono hB.size)
    have HXW : ∀ W, Below wc.heap.size wc W → kB.C W A' x.f5.length x.f5 := fun W hW => Kd.C_below HC.out (hBW W hW)
    obtain ⟨gm, v, hb, hm, hq, okg, okm⟩ := HI.out
    obtain ⟨c0, c1, c2, c3, c4, c5, c6, c7⟩ := blk8 hb
    obtain ⟨⟨d0, d1, d2, d3, d4, d5, d6, d7, d8⟩, df⟩ := blk9 HBK.out
    have f6 := blk_frozen hb 6
    have hokm := (isRef_left (gm := gm) (HIW _ (Below.refl _ _)) c2).2.1
    have hgb := blk_ne hm HBK.out (by decide)
    have hgb' := Ne.symm hgb
    clear hb hm hq c3 c4 c5 c7
    rcases hg : s.gotOk x with _ | _ <;> rw [hg] at he <;> subst he
    · have HH : Hid (s.heard x = s.still) := Lib.hid (by unfold St.heard; rw [hg]; rfl)
      clear hg
      go_wp2_with fail
      go_ret3
      rw [HH.out]
      refine ⟨_, _, _, _, _, _, rfl, nilV _ _, nilVF _ _, HI.out, Mod.of_below hB _⟩
    have HG := Lib.hid hg
    clear hg
    by_cases k3 : x.f0 = 3
    · have e3 : (x.f0 == 3) = true := beq_iff_eq.mpr k3
      rcases ho : s.over with _ | _ <;> rw [ho] at c6
      · by_cases hn : s.others < x.f5.length
        · have HH : Hid (s.heard x = s.bad) := Lib.hid (by unfold St.heard; rw [if_neg (by rw [HG.out]; simp), if_pos k3, ho, decide_eq_true hn, Bool.or_true, if_pos rfl])
          have dn : decide ((x.f5.length : Int) ≤ s.others) = false := decide_eq_false (by omega)
          clear ho k3 hn
          go_wp2_with fail
          go_quiet (fail)
          go_wp2_with (first | (go_at_call 89; refine (reset_r (ok := ok) _ s _ _ (HIW _ (pw_below_drewN (Below.refl _ _) _))).mono ?_; rintro e w2 ⟨rfl, hi, hm⟩; unfold resetF))
          go_ret3
          rw [HH.out]
          refine ⟨_, _, _, _, _, _, rfl, nilV _ _, Kd.V_mono (VF_lit1 (FK_frame w2 (fun _ => False) 5 s.id 1 0)) (fun k hk => ?_), isRef_below hi ((Below.refl _ _).alloc (Nat.le_refl _) _), ((Mod.of_below (hBW _ (pw_below_drewN (Below.refl _ _) _)) ok).andThen hm (fun k hk => .inl hk)).alloc _⟩
          rcases hk with ⟨hk, _⟩ | hk
          · exact hk.elim
          · rw [hk]; exact ((Mod.of_below (hBW _ (pw_below_drewN (Below.refl _ _) _)) ok).andThen hm (fun k hk => .inl hk)).size
        · have HH : Hid (s.heard x = (x.f5, [windowD s.id x.f5.length], 0, s)) := Lib.hid (by unfold St.heard; rw [if_neg (by rw [HG.out]; simp), if_pos k3, ho, decide_eq_false hn]; simp only [Bool.or_false, Bool.false_eq_true, if_false])
          have dn : decide ((x.f5.length : Int) ≤ s.others) = true := decide_eq_true (by omega)
          clear ho k3 hn
          go_wp2_with fail
          go_quiet (fail)
          go_wp2_with fail
          go_region_held3 (fun w' => w'.cell? ⟨g, 0, none⟩ = some (.int .i64 s.id) ∧ w'.cell? ⟨w.heap.size, 8, none⟩ = some (.slice A' x.f5.length c')) (go_keep)
            ((first | (refine step_cloneB (HXW _ (by first | exact ((pw_below_drewN (Below.refl _ _) _)).drew | exact ((pw_below_drewN (Below.refl _ _) _)).drew.alloc (by simp) _)) hlen (by rfl) _ _ (by rfl) (by rfl) (by rfl) ?_; intro A1 c1' w2 hq _ hb2; have hB2 : Below wc.heap.size wc w2 := (by first | exact (((pw_below_drewN (Below.refl _ _) _)).drew).trans (hb2.mono (by simp)) | exact (((pw_below_drewN (Below.refl _ _) _)).drew.alloc (by simp) _).trans (hb2.mono (by simp))); have q0 := (hB2.cell (p := ⟨g, 0, none⟩) (World.block_lt_of_cell? _ _ c0)).trans c0; have q8 := (hB2.cell (p := ⟨w.heap.size, 8, none⟩) (World.block_lt_of_cell? _ _ d8)).trans d8)))
          all_goals go_wp2_with fail
          all_goals go_ret3
          all_goals rw [HH.out]
          · refine ⟨_, _, _, _, _, _, rfl, Kd.V_alloc (Kd.V_mono (Kd.Q_V hq) (fun k hk => ?_)) _, Kd.V_mono (VF_lit1 (FK_frame w2 (fun _ => False) 6 s.id 0 x.f5.length)) (fun k hk => ?_), isRef_below (HIW _ hB2) ((Below.refl _ _).alloc (Nat.le_refl _) _), (Mod.of_below (hBW _ hB2) ok).alloc _⟩
            · simp at hk; have := hB.size; omega
            · rcases hk with ⟨hk, _⟩ | hk
              · exact hk.elim
              · rw [hk]; exact (hBW _ hB2).size
          · refine ⟨_, _, _, _, _, _, rfl, Kd.V_mono (Kd.Q_V hq) (fun k hk => ?_), Kd.V_mono (Kd.V_below (VF_lit1 (w := wc.drewN (nq + 1)) (FK_frame (wc.drewN (nq + 1)) (fun _ => False) 6 s.id 0 x.f5.length)) hb2) (fun k hk => ?_), HIW _ hB2, Mod.of_below (hBW _ hB2) ok⟩
            · simp at hk; have := hB.size; omega
            · rcases hk with ⟨hk, _⟩ | hk
              · exact hk.elim
              · rw [hk]; have := hB.size; simpa using this
      · have HH : Hid (s.heard x = s.bad) := Lib.hid (by unfold St.heard; rw [if_neg (by rw [HG.out]; simp), if_pos k3, ho, Bool.true_or, if_pos rfl])
        clear ho k3
        go_wp2_with fail
        go_quiet (fail)
        go_wp2_with (first | (go_at_call 89; refine (reset_r (ok := ok) _ s _ _ (HIW _ (pw_below_drewN (Below.refl _ _) _))).mono ?_; rintro e w2 ⟨rfl, hi, hm⟩; unfold resetF))
        go_ret3
        rw [HH.out]
        refine ⟨_, _, _, _, _, _, rfl, nilV _ _, Kd.V_mono (VF_lit1 (FK_frame w2 (fun _ => False) 5 s.id 1 0)) (fun k hk => ?_), isRef_below hi ((Below.refl _ _).alloc (Nat.le_refl _) _), ((Mod.of_below (hBW _ (pw_below_drewN (Below.refl _ _) _)) ok).andThen hm (fun k hk => .inl hk)).alloc _⟩
        rcases hk with ⟨hk, _⟩ | hk
        · exact hk.elim
        · rw [hk]; exact ((Mod.of_below (hBW _ (pw_below_drewN (Below.refl _ _) _)) ok).andThen hm (fun k hk => .inl hk)).size
    have e3 : (x.f0 == 3) = false := beq_eq_false_iff_ne.mpr k3
    by_cases k4 : x.f0 = 4
    · have e4 : (x.f0 == 4) = true := beq_iff_eq.mpr k4
      rcases ho : s.over with _ | _ <;> rw [ho] at c6
      · have HH : Hid (s.heard x = ([], [], 1, { s with over := true })) := Lib.hid (by unfold St.heard; rw [if_neg (by rw [HG.out]; simp), if_neg k3, if_pos k4, ho]; simp only [Bool.false_eq_true, if_false])
        clear ho k3 k4
        go_wp2_with fail
        go_ret3
        rw [HH.out]
        refine ⟨_, _, _, _, _, _, rfl, nilV _ _, nilVF _ _, isRef_over HI.out, (Mod.of_below hB ok).setCell (.inl okg) _⟩
      · have HH : Hid (s.heard x = s.bad) := Lib.hid (by unfold St.heard; rw [if_neg (by rw [HG.out]; simp), if_neg k3, if_pos k4, ho, if_pos rfl])
        have HOV : Hid (IsRef (wc.setCell ⟨g, 6, none⟩ (.bool true)) ok g s) := Lib.hid (by have q := isRef_over HI.out; rw [over_self ho] at q; exact q)
        clear ho k3 k4
        go_wp2_with (first | (go_at_call 89; refine (reset_r (ok := ok) _ s _ _ HOV.out).mono ?_; rintro e w2 ⟨rfl, hi, hm⟩; unfold resetF))
        go_ret3
        rw [HH.out]
        have hmm := ((Mod.of_below hB ok).setCell (p := ⟨g, 6, none⟩) (.inl okg) (.bool true)).andThen hm (fun k hk => .inl hk)
        refine ⟨_, _, _, _, _, _, rfl, nilV _ _, Kd.V_mono (VF_lit1 (FK_frame w2 (fun _ => False) 5 s.id 1 0)) (fun k hk => ?_), isRef_below hi ((Below.refl _ _).alloc (Nat.le_refl _) _), hmm.alloc _⟩
        rcases hk with ⟨hk, _⟩ | hk
        · exact hk.elim
        · rw [hk]; exact hmm.size
    have e4 : (x.f0 == 4) = false := beq_eq_false_iff_ne.mpr k4
    by_cases k6 : x.f0 = 6
    · have e6 : (x.f0 == 6) = true := beq_iff_eq.mpr k6
      rcases ho : giveOk s.left x.f3 with _ | _
      · have HH : Hid (s.heard x = s.bad) := Lib.hid (by unfold St.heard; rw [if_neg (by rw [HG.out]; simp), if_neg k3, if_neg k4, if_pos k6, ho]; simp only [Bool.false_eq_true, if_false])
        have HG2 := Lib.hid ho
        have HLD := Lib.hid (isRef_left (gm := gm) (HIW _ ((Below.refl _ _).drew)) ((((Below.refl _ _).drew).cell (p := ⟨g, 2, none⟩) (World.block_lt_of_cell? _ _ c2)).trans c2))
        clear ho k3 k4 k6
        go_wp2_with fail
        refine wp_region_still_tail 6 (by kernel_rfl) (by kernel_rfl) ?_
        simp only [List.take_succ_cons, List.take_zero, List.drop_succ_cons, List.drop_zero]
        iterate 6 still_step
        refine wpStill_nil ?_
        change wpList _ _ _ _ _ wc.drew
        go_wp2_with (first | (go_at_call 97; refine (cgive_r _ s.left x.f3 _ HLD.out.1 h0 h1).mono ?_; rw [HG2.out]; rintro e w2 ⟨rfl, rfl⟩) | (go_at_call 89; refine (reset_r (ok := ok) _ s _ _ (HIW _ ((Below.refl _ _).drew))).mono ?_; rintro e w2 ⟨rfl, hi, hm⟩; unfold resetF))
        go_ret3
        rw [HH.out]
        refine ⟨_, _, _, _, _, _, rfl, nilV _ _, Kd.V_mono (VF_lit1 (FK_frame w2 (fun _ => False) 5 s.id 1 0)) (fun k hk => ?_), isRef_below hi ((Below.refl _ _).alloc (Nat.le_refl _) _), ((Mod.of_below (hBW _ ((Below.refl _ _).drew)) ok).andThen hm (fun k hk => .inl hk)).alloc _⟩
        rcases hk with ⟨hk, _⟩ | hk
        · exact hk.elim
        · rw [hk]; exact ((Mod.of_below (hBW _ ((Below.refl _ _).drew)) ok).andThen hm (fun k hk => .inl hk)).size
      · have HH : Hid (s.heard x = ([], [], 0, { s with left := s.left + x.f3 })) := Lib.hid (by unfold St.heard; rw [if_neg (by rw [HG.out]; simp), if_neg k3, if_neg k4, if_pos k6, ho, if_pos rfl])
        have HG2 := Lib.hid ho
        have HLD := Lib.hid (isRef_left (gm := gm) (HIW _ ((Below.refl _ _).drew)) ((((Below.refl _ _).drew).cell (p := ⟨g, 2, none⟩) (World.block_lt_of_cell? _ _ c2)).trans c2))
        clear ho k3 k4 k6
        go_wp2_with fail
        refine wp_region_still_tail 6 (by kernel_rfl) (by kernel_rfl) ?_
        simp only [List.take_succ_cons, List.take_zero, List.drop_succ_cons, List.drop_zero]
        iterate 6 still_step
        refine wpStill_nil ?_
        change wpList _ _ _ _ _ wc.drew
        go_wp2_with (first | (go_at_call 97; refine (cgive_r _ s.left x.f3 _ HLD.out.1 h0 h1).mono ?_; rw [HG2.out]; rintro e w2 ⟨rfl, rfl⟩))
        go_ret3
        rw [HH.out]
        refine ⟨_, _, _, _, _, _, rfl, nilV _ _, nilVF _ _, HLD.out.2.2 _, (Mod.of_below (hBW _ ((Below.refl _ _).drew)) ok).setCell (.inl hokm) _⟩
    have e6 : (x.f0 == 6) = false := beq_eq_false_iff_ne.mpr k6
    by_cases k5 : x.f0 = 5
    · have e5 : (x.f0 == 5) = true := beq_iff_eq.mpr k5
      have HH : Hid (s.heard x = ([], [], 2, s.reset)) := Lib.hid (by unfold St.heard; rw [if_neg (by rw [HG.out]; simp), if_neg k3, if_neg k4, if_neg k6, if_pos k5])
      clear k3 k4 k6 k5
      go_wp2_with (first | (go_at_call 89; refine (reset_r _ s _ _ HI.out).mono ?_; rintro e w2 ⟨rfl, hi, hm⟩))
      go_ret3
      rw [HH.out]
      refine ⟨_, _, _, _, _, _, rfl, nilV _ _, nilVF _ _, hi, (Mod.of_below hB ok).andThen hm (fun k hk => .inl hk)⟩
    have e5 : (x.f0 == 5) = false := beq_eq_false_iff_ne.mpr k5
    have HH : Hid (s.heard x = s.still) := Lib.hid (by unfold St.heard; rw [if_neg (by rw [HG.out]; simp), if_neg k3, if_neg k4, if_neg k6, if_neg k5])
    clear k3 k4 k6 k5
    go_wp2_with fail
    go_ret3
    rw [HH.out]
    refine ⟨_, _, _, _, _, _, rfl, nilV _ _, nilVF _ _, HI.out, Mod.of_below hB _⟩
end Go.Proofs.Ytcdhgpodoigddaa
