/-
  A frame that a stream of the program gets.
-/
import Derived.Test.YtcdhgpodoigddaaF8
import Derived.Test.YtcdhgpodoigddaaS6
import Derived.Deep.RegionHeld3
import Derived.Deep.DeepCutAuto
import Derived.Deep.QuietTactic
import Derived.BigQuiet
import Derived.StillTailTactics
namespace Go.Proofs.Ytcdhgpodoigddaa
open Go.RowKit Go.Proofs.YtcdhgpodoigddaaW.PrintWords Go.Proofs.YtcdhgpodoigddaaW.PrintLast Go.Proofs.YtcdhgpodoigddaaW.PrintMore
set_option linter.unusedVariables false
set_option linter.unusedSimpArgs false
attribute [local go_sem] max2_max min2_min max_two min_two
def windowD (id n : Int) : S52 := ⟨6, id, 0, n, z50, []⟩
def St.gotOk (s : St) (x : S52) : Bool := !s.done && (x.f1 == s.id && frameB x)
abbrev Heard := List Int × List S52 × Int × St
def St.bad (s : St) : Heard := ([], [resetD s.id 1], 2, s.reset)
def St.still (s : St) : Heard := ([], [], 0, s)
def St.heard (s : St) (x : S52) : Heard :=
  if s.gotOk x = false then s.still else
  if x.f0 = 3 then (if s.over || decide (s.others < x.f5.length) then s.bad else (x.f5, [windowD s.id x.f5.length], 0, s)) else
  if x.f0 = 4 then (if s.over then s.bad else ([], [], 1, { s with over := true })) else
  if x.f0 = 6 then (if giveOk s.left x.f3 then ([], [], 0, { s with left := s.left + x.f3 }) else s.bad) else
  if x.f0 = 5 then ([], [], 2, s.reset) else s.still
def GotP (Is : World → (Nat → Prop) → Nat → St → Prop) (ok : Nat → Prop) (g : Nat) (w : World) (r : Heard) (e : Ending) (w' : World) : Prop :=
  ∃ A n c B m d, e = .returned (.tuple #[.slice A n c, .slice B m d, .int .i64 r.2.2.1]) ∧ Kd.V kB 5 w' 0 (fun k => w.heap.size ≤ k) (.slice A n c) r.1 ∧ VF w' (fun k => w.heap.size ≤ k) (.slice B m d) r.2.1 ∧ Is w' ok g r.2.2.2 ∧ Mod ok w w'
theorem nilV (W : World) (ok : Nat → Prop) : Kd.V kB 5 W 0 ok (.slice none 0 0) [] := Kd.V_nil _ _ _ _ _
theorem nilVF (W : World) (ok : Nat → Prop) : VF W ok (.slice none 0 0) [] := Kd.V_nil _ _ _ _ _
theorem isStr_over {w : World} {ok : Nat → Prop} {g : Nat} {s : St} (h : IsStr w ok g s) : IsStr (w.setCell ⟨g, 6, none⟩ (.bool true)) ok g { s with over := true } := by
  obtain ⟨gm, v, hb, hm, hq, okg, okm⟩ := h
  exact isStr_set2 (s' := { s with over := true }) (l := 0) hb hm okg okm 6 _ (q_far hq hb (by decide) _ _) (by simp)
theorem isRef_over {w : World} {ok : Nat → Prop} {g : Nat} {s : St} (h : IsRef w ok g s) : IsRef (w.setCell ⟨g, 6, none⟩ (.bool true)) ok g { s with over := true } := by
  obtain ⟨gm, v, hb, hm, hq, okg, okm⟩ := h
  exact isRef_set2 (s' := { s with over := true }) (l := 0) hb hm okg okm 6 _ (q_far hq hb (by decide) _ _) (by simp)
/-- Its credit's cell, and what it is once that is set. -/
theorem isStr_left {w : World} {ok : Nat → Prop} {g gm : Nat} {s : St} (h : IsStr w ok g s) (hp : w.cell? ⟨g, 1, none⟩ = some (.pointer (some ⟨gm, 0, none⟩))) :
    w.heap[gm]? = some (.cells #[.int .i64 s.left] 172 (0, 0)) ∧ ok gm ∧ ∀ l, IsStr (w.setCell ⟨gm, 0, none⟩ (.int .i64 l)) ok g { s with left := l } := by
  obtain ⟨gm', v, hb, hm, hq, okg, okm⟩ := h
  have h1 := (blk8 hb).2.1
  rw [hp] at h1
  injection h1 with h1
  injection h1 with h1
  injection h1 with h1
  injection h1 with h1
  subst h1
  refine ⟨hm, okm, fun l => ⟨gm, v, ?_, ?_, ?_, okg, okm⟩⟩
  · exact blk_far hb (p := ⟨gm, 0, none⟩) (blk_ne hb hm (by decide)) _
  · have q := blk_set hm 0 (.int .i64 l); simpa using q
  · exact q_far hq hm (by decide) _ _
theorem isRef_left {w : World} {ok : Nat → Prop} {g gm : Nat} {s : St} (h : IsRef w ok g s) (hp : w.cell? ⟨g, 2, none⟩ = some (.pointer (some ⟨gm, 0, none⟩))) :
    w.heap[gm]? = some (.cells #[.int .i64 s.left] 174 (0, 0)) ∧ ok gm ∧ ∀ l, IsRef (w.setCell ⟨gm, 0, none⟩ (.int .i64 l)) ok g { s with left := l } := by
  obtain ⟨gm', v, hb, hm, hq, okg, okm⟩ := h
  have h1 := (blk8 hb).2.2.1
  rw [hp] at h1
  injection h1 with h1
  injection h1 with h1
  injection h1 with h1
  injection h1 with h1
  subst h1
  refine ⟨hm, okm, fun l => ⟨gm, v, ?_, ?_, ?_, okg, okm⟩⟩
  · exact blk_far hb (p := ⟨gm, 0, none⟩) (blk_ne hb hm (by decide)) _
  · have q := blk_set hm 0 (.int .i64 l); simpa using q
  · exact q_far hq hm (by decide) _ _
theorem done_q {ok : Nat → Prop} {g : Nat} {s : St} {w : World} {b : Bool} (hd : s.done = b) (h : IsStr w ok g s) :
    Calls Try.prog 40 #[.pointer (some ⟨g, 0, none⟩)] w fun e w' => e = .returned (.bool b) ∧ w' = w := (done_p g s w h).mono (fun e w' q => ⟨by rw [← hd]; exact q.1, q.2.symm⟩)
set_option maxHeartbeats 2000000 in
set_option maxRecDepth 100000 in
theorem got_p {ok : Nat → Prop} (g : Nat) (s : St) (x : S52) (A A' : Option Addr) (c c' : Nat) (w : World) (h : IsStr w ok g s) (h0 : 0 ≤ s.left) (h1 : s.left ≤ 65536) (hx : kB.C w A x.f4.f1.length x.f4.f1) (hx' : kB.C w A' x.f5.length x.f5) (hlc : x.f5.length ≤ c') (hs : x.f4.f2.size ≤ 9223372036854775807) (hlen : x.f5.length ≤ 140737488355328) : Calls Try.prog 38 #[.pointer (some ⟨g, 0, none⟩), .agg #[.int .i64 x.f0, .int .i64 x.f1, .int .i64 x.f2, .int .i64 x.f3, .int .i64 x.f4.f0, .slice A x.f4.f1.length c, .string x.f4.f2, .int .i64 x.f4.f3, .slice A' x.f5.length c']] w (GotP IsStr ok g w (s.heard x)) := by
  have hb0 := h
  have hB0 : ∀ o, Below w.heap.size w (w.alloc o) := fun o => (Below.refl _ w).alloc (Nat.le_refl _) o
  have hBN : ∀ o n, Below w.heap.size w ((w.alloc o).drewN n) := fun o n => pw_below_drewN (hB0 o) n
  have HA : ∀ o, Hid (IsStr (w.alloc o).drew ok g s) := fun o => Lib.hid (isStr_below h ((hB0 o).drew))
  have HAN : ∀ o n, Hid (IsStr ((w.alloc o).drewN n) ok g s) := fun o n => Lib.hid (isStr_below h (hBN o n))
  have HX : ∀ o, Hid (kB.C (w.alloc o).drew A x.f4.f1.length x.f4.f1) := fun o => Lib.hid (Kd.C_below hx ((hB0 o).drew))
  have HX' : ∀ o, Hid (kB.C (w.alloc o).drew A' x.f5.length x.f5) := fun o => Lib.hid (Kd.C_below hx' ((hB0 o).drew))
  obtain ⟨gm, v, hb, hm, hq, okg, okm⟩ := hb0
  obtain ⟨c0, c1, c2, c3, c4, c5, c6, c7⟩ := blk8 hb
  have hlt := blk_lt hb
  have HC := Lib.hid hx'
  clear h hb hx hx' hm hq c3 c4 c5 c7 c1 c2 c6
  go_enter Try.func38, Try.ntmps38
  go_upto_region 1 with fail
  go_cut [26] (fun s26 wx => s26 = .bool (!s.gotOk x) ∧ Hid (IsStr wx ok g s) ∧ Below w.heap.size w wx ∧ Hid (wx.heap[w.heap.size]? = some (.cells #[.int .i64 x.f0, .int .i64 x.f1, .int .i64 x.f2, .int .i64 x.f3, .int .i64 x.f4.f0, .slice A x.f4.f1.length c, .string x.f4.f2, .int .i64 x.f4.f3, .slice A' x.f5.length c'] 52 (0, 0))))
  case first =>
    rcases hd : s.done with _ | _
    · rcases ei : (x.f1 == s.id) with _ | _
      · have HD := Lib.hid hd
        have HO : Hid (s.gotOk x = false) := Lib.hid (by unfold St.gotOk; rw [hd, ei]; rfl)
        have en : (x.f1 != s.id) = true := by simp [bne, ei]
        clear hd
        go_quiet ((go_at_call 40; exact Calls.quiet_of_same (done_q HD.out (HAN _ _).out)))
        (go_wp2_with fail; go_meet)
        exact ⟨by rw [HO.out]; rfl, HAN _ _, (hBN _ _), Lib.hid (heap_alloc_new _ _)⟩
      · have HD := Lib.hid hd
        have en : (x.f1 != s.id) = false := by simp [bne, ei]
        have HF : Hid (s.gotOk x = frameB x) := Lib.hid (by unfold St.gotOk; rw [hd, ei]; rfl)
        clear hd
        go_region_held3 (fun w' => w'.cell? ⟨g, 0, none⟩ = some (.int .i64 s.id) ∧ w'.cell? ⟨w.heap.size, 0, none⟩ = some (.int .i64 x.f0) ∧ w'.cell? ⟨w.heap.size, 1, none⟩ = some (.int .i64 x.f1) ∧ w'.cell? ⟨w.heap.size, 2, none⟩ = some (.int .i64 x.f2) ∧ w'.cell? ⟨w.heap.size, 3, none⟩ = some (.int .i64 x.f3) ∧ w'.cell? ⟨w.heap.size, 4, none⟩ = some (.int .i64 x.f4.f0) ∧ w'.cell? ⟨w.heap.size, 5, none⟩ = some (.slice A x.f4.f1.length c) ∧ w'.cell? ⟨w.heap.size, 6, none⟩ = some (.string x.f4.f2) ∧ w'.cell? ⟨w.heap.size, 7, none⟩ = some (.int .i64 x.f4.f3) ∧ w'.cell? ⟨w.heap.size, 8, none⟩ = some (.slice A' x.f5.length c')) (go_keep)
          ((first | (go_at_call 40; refine (done_p _ s _ (HA _).out).mono ?_; rw [HD.out]; rintro e w' ⟨rfl, rfl⟩) | (go_at_call 74; refine (mayFrame_p x _ _ _ _ _ (HX _).out (HX' _).out hs).mono ?_; rintro e w1 ⟨rfl, hb1⟩; obtain ⟨bc, bf⟩ := bcell hb1; have hB1 := (hB0 _).drew.trans (hb1.mono (by simp)); have hc0 := (hB1.cell (p := ⟨g, 0, none⟩) hlt).trans c0)))
        go_wp2_with fail
        all_goals go_meet
        all_goals exact ⟨by rw [HF.out], Lib.hid (isStr_below (HA _).out hb1), hB1, Lib.hid ((hb1.block _ (by simp)).trans (heap_alloc_new _ _))⟩
    · have HD := Lib.hid hd
      have HO : Hid (s.gotOk x = false) := Lib.hid (by unfold St.gotOk; rw [hd]; rfl)
      clear hd
      go_quiet ((go_at_call 40; exact Calls.quiet_of_same (done_q HD.out (HAN _ _).out)))
      (go_wp2_with fail; go_meet)
      exact ⟨by rw [HO.out]; rfl, HAN _ _, (hBN _ _), Lib.hid (heap_alloc_new _ _)⟩
  case rest =>
    obtain ⟨he, HI, hB, HBK⟩ := hcut
    have HIW : ∀ W, Below wc.heap.size wc W → IsStr W ok g s := fun W hW => isStr_below HI.out hW
    have hBW : ∀ W, Below wc.heap.size wc W → Below w.heap.size w W := fun W hW => hB.trans (hW.mono hB.size)
    have HXW : ∀ W, Below wc.heap.size wc W → kB.C W A' x.f5.length x.f5 := fun W hW => Kd.C_below HC.out (hBW W hW)
    obtain ⟨gm, v, hb, hm, hq, okg, okm⟩ := HI.out
    obtain ⟨c0, c1, c2, c3, c4, c5, c6, c7⟩ := blk8 hb
    obtain ⟨⟨d0, d1, d2, d3, d4, d5, d6, d7, d8⟩, df⟩ := blk9 HBK.out
    have f6 := blk_frozen hb 6
    have hL := isStr_left (gm := gm) (HIW _ (Below.refl _ _)) c1
    have hokm := hL.2.1
    have hL1 := Lib.hid hL.1
    have hL2 := Lib.hid hL.2.2
    clear hb hm hq c3 c4 c5 c7 hL
    rcases hg : s.gotOk x with _ | _ <;> rw [hg] at he <;> subst he
    · have HH : Hid (s.heard x = s.still) := Lib.hid (by unfold St.heard; rw [hg]; rfl)
      clear hg
      go_wp2_with fail
      go_ret3
      rw [HH.out]
      refine ⟨_, _, _, _, _, _, rfl, nilV _ _, nilVF _ _, HI.out, Mod.of_below hB _⟩
    have HG := Lib.hid hg
    clear hg
    by_cases k3 : x.f0 = 3
    · have e3 : (x.f0 == 3) = true := beq_iff_eq.mpr k3
      rcases ho : s.over with _ | _ <;> rw [ho] at c6
      · by_cases hn : s.others < x.f5.length
        · have HH : Hid (s.heard x = s.bad) := Lib.hid (by unfold St.heard; rw [if_neg (by rw [HG.out]; simp), if_pos k3, ho, decide_eq_true hn, Bool.or_true, if_pos rfl])
          have dn : decide (s.others < x.f5.length) = true := decide_eq_true hn
          clear ho k3 hn
          go_wp2_with fail
          go_quiet (fail)
          go_wp2_with (first | (go_at_call 94; refine (against_p _ s _ (HIW _ (pw_below_drewN (Below.refl _ _) _))).mono ?_; rintro e w2 ⟨B, m, d, rfl, hv, hi, hm⟩))
          go_ret3
          rw [HH.out]
          refine ⟨_, _, _, _, _, _, rfl, nilV _ _, Kd.V_mono hv (fun k hk => Nat.le_trans (hBW _ (pw_below_drewN (Below.refl _ _) _)).size hk), hi, (Mod.of_below (hBW _ (pw_below_drewN (Below.refl _ _) _)) ok).andThen hm (fun k hk => .inl hk)⟩
        · have HH : Hid (s.heard x = (x.f5, [windowD s.id x.f5.length], 0, s)) := Lib.hid (by unfold St.heard; rw [if_neg (by rw [HG.out]; simp), if_pos k3, ho, decide_eq_false hn]; simp only [Bool.or_false, Bool.false_eq_true, if_false])
          have dn : decide (s.others < x.f5.length) = false := decide_eq_false hn
          clear ho k3 hn
          go_wp2_with fail
          go_quiet (fail)
          go_wp2_with fail
          go_region_held3 (fun w' => w'.cell? ⟨g, 0, none⟩ = some (.int .i64 s.id) ∧ w'.cell? ⟨w.heap.size, 8, none⟩ = some (.slice A' x.f5.length c')) (go_keep)
            ((first | (go_at_call 92; refine (clone_B _ _ _ _ _ (HXW _ (by first | exact ((pw_below_drewN (Below.refl _ _) _)).drew | exact ((pw_below_drewN (Below.refl _ _) _)).drew.alloc (by simp) _)) hlen).mono ?_; rintro e w2 ⟨u, rfl, hq, hb2⟩; obtain ⟨bc2, bf2⟩ := bcell hb2; obtain ⟨A1, c1', rfl, _⟩ := Kd.Q_slice hq; have hB2 : Below wc.heap.size wc w2 := (by first | exact ((pw_below_drewN (Below.refl _ _) _).drew).trans (hb2.mono (by simp)) | exact ((pw_below_drewN (Below.refl _ _) _).drew.alloc (by simp) _).trans (hb2.mono (by simp))); have q0 := (hB2.cell (p := ⟨g, 0, none⟩) (World.block_lt_of_cell? _ _ c0)).trans c0; have q8 := (hB2.cell (p := ⟨w.heap.size, 8, none⟩) (World.block_lt_of_cell? _ _ d8)).trans d8)))
          all_goals go_wp2_with fail
          all_goals go_ret3
          all_goals rw [HH.out]
          · refine ⟨_, _, _, _, _, _, rfl, Kd.V_alloc (Kd.V_mono (Kd.Q_V hq) (fun k hk => ?_)) _, Kd.V_mono (VF_lit1 (FK_frame w2 (fun _ => False) 6 s.id 0 x.f5.length)) (fun k hk => ?_), isStr_below (HIW _ hB2) ((Below.refl _ _).alloc (Nat.le_refl _) _), (Mod.of_below (hBW _ hB2) ok).alloc _⟩
            · simp at hk; have := hB.size; omega
            · rcases hk with ⟨hk, _⟩ | hk
              · exact hk.elim
              · rw [hk]; exact (hBW _ hB2).size
          · refine ⟨_, _, _, _, _, _, rfl, Kd.V_mono (Kd.Q_V hq) (fun k hk => ?_), Kd.V_mono (Kd.V_below (VF_lit1 (w := wc.drewN (nq + 1)) (FK_frame (wc.drewN (nq + 1)) (fun _ => False) 6 s.id 0 x.f5.length)) hb2) (fun k hk => ?_), HIW _ hB2, Mod.of_below (hBW _ hB2) ok⟩
            · simp at hk; have := hB.size; omega
            · rcases hk with ⟨hk, _⟩ | hk
              · exact hk.elim
              · rw [hk]; have := hB.size; simpa using this
      · have HH : Hid (s.heard x = s.bad) := Lib.hid (by unfold St.heard; rw [if_neg (by rw [HG.out]; simp), if_pos k3, ho, Bool.true_or, if_pos rfl])
        clear ho k3
        go_wp2_with fail
        go_quiet (fail)
        go_wp2_with (first | (go_at_call 94; refine (against_p _ s _ (HIW _ (pw_below_drewN (Below.refl _ _) _))).mono ?_; rintro e w2 ⟨B, m, d, rfl, hv, hi, hm⟩))
        go_ret3
        rw [HH.out]
        refine ⟨_, _, _, _, _, _, rfl, nilV _ _, Kd.V_mono hv (fun k hk => Nat.le_trans (hBW _ (pw_below_drewN (Below.refl _ _) _)).size hk), hi, (Mod.of_below (hBW _ (pw_below_drewN (Below.refl _ _) _)) ok).andThen hm (fun k hk => .inl hk)⟩
    have e3 : (x.f0 == 3) = false := beq_eq_false_iff_ne.mpr k3
    by_cases k4 : x.f0 = 4
    · have e4 : (x.f0 == 4) = true := beq_iff_eq.mpr k4
      rcases ho : s.over with _ | _ <;> rw [ho] at c6
      · have HH : Hid (s.heard x = ([], [], 1, { s with over := true })) := Lib.hid (by unfold St.heard; rw [if_neg (by rw [HG.out]; simp), if_neg k3, if_pos k4, ho]; simp only [Bool.false_eq_true, if_false])
        clear ho k3 k4
        go_wp2_with fail
        go_ret3
        rw [HH.out]
        refine ⟨_, _, _, _, _, _, rfl, nilV _ _, nilVF _ _, isStr_over HI.out, (Mod.of_below hB ok).setCell (.inl okg) _⟩
      · have HH : Hid (s.heard x = s.bad) := Lib.hid (by unfold St.heard; rw [if_neg (by rw [HG.out]; simp), if_neg k3, if_pos k4, ho, if_pos rfl])
        clear ho k3 k4
        go_wp2_with (first | (go_at_call 94; refine (against_p _ s _ (HIW _ (Below.refl _ _))).mono ?_; rintro e w2 ⟨B, m, d, rfl, hv, hi, hm⟩))
        go_ret3
        rw [HH.out]
        refine ⟨_, _, _, _, _, _, rfl, nilV _ _, Kd.V_mono hv (fun k hk => Nat.le_trans (hBW _ (Below.refl _ _)).size hk), hi, (Mod.of_below (hBW _ (Below.refl _ _)) ok).andThen hm (fun k hk => .inl hk)⟩
    have e4 : (x.f0 == 4) = false := beq_eq_false_iff_ne.mpr k4
    by_cases k6 : x.f0 = 6
    · have e6 : (x.f0 == 6) = true := beq_iff_eq.mpr k6
      rcases ho : giveOk s.left x.f3 with _ | _
      · have HH : Hid (s.heard x = s.bad) := Lib.hid (by unfold St.heard; rw [if_neg (by rw [HG.out]; simp), if_neg k3, if_neg k4, if_pos k6, ho]; simp only [Bool.false_eq_true, if_false])
        have HG2 := Lib.hid ho
        have HLD := Lib.hid (isStr_left (gm := gm) (HIW _ ((Below.refl _ _).drew)) ((((Below.refl _ _).drew).cell (p := ⟨g, 1, none⟩) (World.block_lt_of_cell? _ _ c1)).trans c1))
        clear ho k3 k4 k6
        go_wp2_with fail
        refine wp_region_still_tail 6 (by kernel_rfl) (by kernel_rfl) ?_
        simp only [List.take_succ_cons, List.take_zero, List.drop_succ_cons, List.drop_zero]
        iterate 6 still_step
        refine wpStill_nil ?_
        change wpList _ _ _ _ _ wc.drew
        go_wp2_with (first | (go_at_call 95; refine (cgive_p _ s.left x.f3 _ HLD.out.1 h0 h1).mono ?_; rw [HG2.out]; rintro e w2 ⟨rfl, rfl⟩) | (go_at_call 94; refine (against_p _ s _ (HIW _ ((Below.refl _ _).drew))).mono ?_; rintro e w2 ⟨B, m, d, rfl, hv, hi, hm⟩))
        go_ret3
        rw [HH.out]
        refine ⟨_, _, _, _, _, _, rfl, nilV _ _, Kd.V_mono hv (fun k hk => Nat.le_trans (hBW _ ((Below.refl _ _).drew)).size hk), hi, (Mod.of_below (hBW _ ((Below.refl _ _).drew)) ok).andThen hm (fun k hk => .inl hk)⟩
      · have HH : Hid (s.heard x = ([], [], 0, { s with left := s.left + x.f3 })) := Lib.hid (by unfold St.heard; rw [if_neg (by rw [HG.out]; simp), if_neg k3, if_neg k4, if_pos k6, ho, if_pos rfl])
        have HG2 := Lib.hid ho
        have HLD := Lib.hid (isStr_left (gm := gm) (HIW _ ((Below.refl _ _).drew)) ((((Below.refl _ _).drew).cell (p := ⟨g, 1, none⟩) (World.block_lt_of_cell? _ _ c1)).trans c1))
        clear ho k3 k4 k6
        go_wp2_with fail
        refine wp_region_still_tail 6 (by kernel_rfl) (by kernel_rfl) ?_
        simp only [List.take_succ_cons, List.take_zero, List.drop_succ_cons, List.drop_zero]
        iterate 6 still_step
        refine wpStill_nil ?_
        change wpList _ _ _ _ _ wc.drew
        go_wp2_with (first | (go_at_call 95; refine (cgive_p _ s.left x.f3 _ HLD.out.1 h0 h1).mono ?_; rw [HG2.out]; rintro e w2 ⟨rfl, rfl⟩))
        go_ret3
        rw [HH.out]
        refine ⟨_, _, _, _, _, _, rfl, nilV _ _, nilVF _ _, HLD.out.2.2 _, (Mod.of_below (hBW _ ((Below.refl _ _).drew)) ok).setCell (.inl hokm) _⟩
    have e6 : (x.f0 == 6) = false := beq_eq_false_iff_ne.mpr k6
    by_cases k5 : x.f0 = 5
    · have e5 : (x.f0 == 5) = true := beq_iff_eq.mpr k5
      have HH : Hid (s.heard x = ([], [], 2, s.reset)) := Lib.hid (by unfold St.heard; rw [if_neg (by rw [HG.out]; simp), if_neg k3, if_neg k4, if_neg k6, if_pos k5])
      clear k3 k4 k6 k5
      go_wp2_with (first | (go_at_call 88; refine (reset_p _ s _ _ HI.out).mono ?_; rintro e w2 ⟨rfl, hi, hm⟩))
      go_ret3
      rw [HH.out]
      refine ⟨_, _, _, _, _, _, rfl, nilV _ _, nilVF _ _, hi, (Mod.of_below hB ok).andThen hm (fun k hk => .inl hk)⟩
    have e5 : (x.f0 == 5) = false := beq_eq_false_iff_ne.mpr k5
    have HH : Hid (s.heard x = s.still) := Lib.hid (by unfold St.heard; rw [if_neg (by rw [HG.out]; simp), if_neg k3, if_neg k4, if_neg k6, if_neg k5])
    clear k3 k4 k6 k5
    go_wp2_with fail
    go_ret3
    rw [HH.out]
    refine ⟨_, _, _, _, _, _, rfl, nilV _ _, nilVF _ _, HI.out, Mod.of_below hB _⟩
end Go.Proofs.Ytcdhgpodoigddaa
