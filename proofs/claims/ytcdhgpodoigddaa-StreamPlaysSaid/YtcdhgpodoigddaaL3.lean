/-
  The law StreamPlays, walked.
-/
import Derived.Test.YtcdhgpodoigddaaL2
import Derived.Deep.RegionHeld3
import Derived.Deep.QuietTactic
import Derived.BigQuiet
namespace Go.Proofs.Ytcdhgpodoigddaa
open Go.RowKit Go.Proofs.YtcdhgpodoigddaaW.PrintWords Go.Proofs.YtcdhgpodoigddaaW.PrintLast Go.Proofs.YtcdhgpodoigddaaW.PrintMore
set_option linter.unusedVariables false
set_option linter.unusedSimpArgs false
attribute [local go_sem] max2_max min2_min max_two min_two
theorem Apart.below {w W W1 : World} {okS okR : Nat → Prop} (h : Apart w W okS okR) (hb : Below W.heap.size W W1) : Apart w W1 okS okR := by
  have hs := hb.size
  exact ⟨fun k hk => ⟨(h.s k hk).1, by have := (h.s k hk).2; omega⟩, fun k hk => ⟨(h.r k hk).1, by have := (h.r k hk).2; omega⟩, h.d, h.b.trans (hb.mono h.b.size)⟩
theorem done_s {ok : Nat → Prop} {g : Nat} {s : St} {w : World} (h : IsStr w ok g s) : Calls Try.prog 40 #[.pointer (some ⟨g, 0, none⟩)] w fun e w' => e = .returned (.bool s.done) ∧ w' = w := (done_p g s w h).mono (fun e w' q => ⟨q.1, q.2.symm⟩)
theorem done_t {ok : Nat → Prop} {g : Nat} {s : St} {w : World} (h : IsRef w ok g s) : Calls Try.prog 41 #[.pointer (some ⟨g, 0, none⟩)] w fun e w' => e = .returned (.bool s.done) ∧ w' = w := (done_r g s w h).mono (fun e w' q => ⟨q.1, q.2.symm⟩)
theorem waits_s {ok : Nat → Prop} {g : Nat} {s : St} {w : World} (h : IsStr w ok g s) : Calls Try.prog 42 #[.pointer (some ⟨g, 0, none⟩)] w fun e w' => e = .returned (.int .i64 s.wait.length) ∧ w' = w := (waits_p g s w h).mono (fun e w' q => ⟨q.1, q.2.symm⟩)
theorem id_s {ok : Nat → Prop} {g : Nat} {s : St} {w : World} (h : IsStr w ok g s) : Calls Try.prog 43 #[.pointer (some ⟨g, 0, none⟩)] w fun e w' => e = .returned (.int .i64 s.id) ∧ w' = w := (id_p g s w h).mono (fun e w' q => ⟨q.1, q.2.symm⟩)
theorem blk12 {w : World} {g t : Nat} {a0 a1 a2 a3 a4 a5 a6 a7 a8 a9 a10 a11 : Value} (h : w.heap[g]? = some (.cells #[a0, a1, a2, a3, a4, a5, a6, a7, a8, a9, a10, a11] t (0, 0))) :
    w.cell? ⟨g, 0, none⟩ = some a0 ∧ w.cell? ⟨g, 1, none⟩ = some a1 ∧ w.cell? ⟨g, 2, none⟩ = some a2 ∧ w.cell? ⟨g, 3, none⟩ = some a3 ∧ w.cell? ⟨g, 4, none⟩ = some a4 ∧ w.cell? ⟨g, 5, none⟩ = some a5 ∧ w.cell? ⟨g, 6, none⟩ = some a6 ∧ w.cell? ⟨g, 7, none⟩ = some a7 ∧ w.cell? ⟨g, 8, none⟩ = some a8 ∧ w.cell? ⟨g, 9, none⟩ = some a9 ∧ w.cell? ⟨g, 10, none⟩ = some a10 ∧ w.cell? ⟨g, 11, none⟩ = some a11 :=
  ⟨(blk_cell h 0).trans rfl, (blk_cell h 1).trans rfl, (blk_cell h 2).trans rfl, (blk_cell h 3).trans rfl, (blk_cell h 4).trans rfl, (blk_cell h 5).trans rfl, (blk_cell h 6).trans rfl, (blk_cell h 7).trans rfl, (blk_cell h 8).trans rfl, (blk_cell h 9).trans rfl, (blk_cell h 10).trans rfl, (blk_cell h 11).trans rfl⟩
def plainF (a b c : Int) : Value := .agg #[.int .i64 a, .int .i64 b, .int .i64 c, .int .i64 0, .int .i64 0, .slice none 0 0, .string ⟨#[]⟩, .int .i64 0, .slice none 0 0]
theorem breakF_form (s : St) (code : Int) : ∃ a b c, s.breakF code = plainF a b c := by
  unfold St.breakF
  split
  · exact ⟨5, s.id, code, rfl⟩
  · exact ⟨0, 0, 0, rfl⟩
theorem small_lens {x : S54} (h : smallB x = true) : x.f2.length ≤ 3000 ∧ x.f3.f5.length ≤ 5000 := by
  simp only [smallB, Bool.and_eq_true, decide_eq_true_eq] at h
  omega
def BOX (x : S54) (A2 : Option Addr) (c2 : Nat) (A8 : Option Addr) (c8 : Nat) (A11 : Option Addr) (c11 : Nat) : Obj :=
  .cells #[.int .i64 x.f0, .int .i64 x.f1, .slice A2 x.f2.length c2, .int .i64 x.f3.f0, .int .i64 x.f3.f1, .int .i64 x.f3.f2, .int .i64 x.f3.f3, .int .i64 x.f3.f4.f0, .slice A8 x.f3.f4.f1.length c8, .string x.f3.f4.f2, .int .i64 x.f3.f4.f3, .slice A11 x.f3.f5.length c11] 54 (0, 0)
set_option maxHeartbeats 8000000 in
set_option maxRecDepth 100000 in
theorem law_any (i0 n0 : Int) (A : Option Addr) (n cap : Nat) (l : List S54) (w : World) (hC : Kd.C k54 w A n l) (hsz : ∀ x ∈ l, x.f3.f4.f2.size ≤ 9223372036854775807) :
    Calls Try.prog 5 #[.int .i64 i0, .int .i64 n0, .slice A n cap] w fun e w' => e = .returned (.bool true) ∧ Below w.heap.size w w' := by
  have hbig : n ≤ 9223372036854775807 := hC.2.1
  have HC := Lib.hid hC
  have hsz' : ∀ i : Int, (rd_T54 l i).f3.f4.f2.size ≤ 9223372036854775807 := fun i => by
    unfold rd_T54
    rw [List.getD_eq_getElem?_getD]
    rcases h : l[i.toNat]? with _ | x
    · decide
    · exact hsz x (List.mem_of_getElem? h)
  have HZ := Lib.hid hsz'
  clear hC hsz hsz'
  by_cases hok : StOk i0 n0
  rotate_left
  · go_enter Try.func5, Try.ntmps5
    go_wp2_with (first
      | (go_at_call 24; refine (new_no_p _ _ _ hok).mono ?_; rintro e w1 ⟨rfl, rfl⟩)
      | (go_at_call 25; refine (new_no_r _ _ _ hok).mono ?_; rintro e w1 ⟨rfl, rfl⟩)
      | (go_at_call 26; refine (awake_any _).mono ?_; rintro e wz ⟨rfl, hbz⟩))
    go_ret
    exact ⟨rfl, hbz⟩
  · have HOK := Lib.hid hok
    have HFN := Lib.hid (fit_new hok)
    clear hok
    go_enter Try.func5, Try.ntmps5
    go_wp2_with (first
      | (go_at_call 24; refine (new_yes_p _ _ _ HOK.out).mono ?_; rintro e w1 ⟨g, rfl, hS1, hb1⟩)
      | (go_at_call 25; refine (new_yes_r _ _ _ HOK.out).mono ?_; rintro e w2 ⟨g', rfl, hR2, hb2⟩; have HB0 := Lib.hid (both_new hS1 hb1 hR2 hb2); clear hS1 hb1 hR2 hb2))
    go_loopw [38] (fun i wr => ∃ k : Nat, k ≤ n ∧ i = .int .i64 k ∧ ∃ s : St, s.Fit ∧ Both w wr g g' s) (fun i _ => n - (intOf i).toNat)
    case atStart => exact ⟨0, Nat.zero_le _, rfl, _, HFN.out, HB0.out⟩
    case round =>
      obtain ⟨k, hk, rfl, s, hF, hBo⟩ := hrel
      have HBo := Lib.hid hBo
      have HF := Lib.hid hF
      obtain ⟨okS, okR, ha0, hS0, hR0⟩ := hBo.open
      have hB := ha0.b
      have HA0 := Lib.hid ha0
      have HS0 := Lib.hid hS0
      have HR0 := Lib.hid hR0
      clear ha0 hS0 hR0
      by_cases hlt : k < n
      rotate_left
      · obtain rfl : k = n := by omega
        clear hBo hF
        go_wp2_with (first | (go_at_call 26; refine (awake_any _).mono ?_; rintro e wz ⟨rfl, hbz⟩))
        go_ret
        exact ⟨rfl, hB.trans (hbz.mono hB.size)⟩
      · obtain ⟨ad, A2, c2, A8, c8, A11, c11, rfl, x0, x1, x2, x3, x4, x5, x6, x7, x8, x9, x10, x11, l2, g2, l8, g8, l11, g11⟩ := at_T54 HC.out k (by omega) (by omega)
        simp only [Int.toNat_natCast] at x0 x1 x2 x3 x4 x5 x6 x7 x8 x9 x10 x11
        replace x0 := (hB.cell (World.block_lt_of_cell? _ _ x0)).trans x0
        replace x1 := (hB.cell (World.block_lt_of_cell? _ _ x1)).trans x1
        replace x2 := (hB.cell (World.block_lt_of_cell? _ _ x2)).trans x2
        replace x3 := (hB.cell (World.block_lt_of_cell? _ _ x3)).trans x3
        replace x4 := (hB.cell (World.block_lt_of_cell? _ _ x4)).trans x4
        replace x5 := (hB.cell (World.block_lt_of_cell? _ _ x5)).trans x5
        replace x6 := (hB.cell (World.block_lt_of_cell? _ _ x6)).trans x6
        replace x7 := (hB.cell (World.block_lt_of_cell? _ _ x7)).trans x7
        replace x8 := (hB.cell (World.block_lt_of_cell? _ _ x8)).trans x8
        replace x9 := (hB.cell (World.block_lt_of_cell? _ _ x9)).trans x9
        replace x10 := (hB.cell (World.block_lt_of_cell? _ _ x10)).trans x10
        replace x11 := (hB.cell (World.block_lt_of_cell? _ _ x11)).trans x11
        have hk0 : (0 : Int) ≤ (k : Int) := by omega
        have hkn : (k : Int) < (n : Int) := by omega
        have hnm := HZ.out (k : Int)
        generalize rd_T54 l (k : Int) = x at *
        have HG2 : Hid (∀ W, Below w.heap.size w W → kB.C W A2 x.f2.length x.f2) := Lib.hid (fun W h => Kd.C_below g2 h)
        have HG8 : Hid (∀ W, Below w.heap.size w W → kB.C W A8 x.f3.f4.f1.length x.f3.f4.f1) := Lib.hid (fun W h => Kd.C_below g8 h)
        have HG11 : Hid (∀ W, Below w.heap.size w W → kB.C W A11 x.f3.f5.length x.f3.f5) := Lib.hid (fun W h => Kd.C_below g11 h)
        clear g2 g8 g11 hBo hF l8
        by_cases h60 : 60 ≤ k
        · go_wp2_with (first | (go_at_call 26; refine (awake_any _).mono ?_; rintro e wz ⟨rfl, hbz⟩))
          go_ret
          exact ⟨rfl, (hB.alloc hB.size _).trans (hbz.mono (by have := hB.size; simp; omega))⟩
        rcases hsm : smallB x with _ | _
        · have HS := Lib.hid hsm
          clear hsm
          go_wp2_with (first | (go_at_call 27; refine (small_any x _ _ _ _ _ _ _).mono ?_; rw [HS.out]; rintro e w3 ⟨rfl, hb3⟩) | (go_at_call 26; refine (awake_any _).mono ?_; rintro e wz ⟨rfl, hbz⟩))
          go_ret
          have q1 := (hB.alloc hB.size _).trans (hb3.mono (by have := hB.size; simp; omega))
          exact ⟨rfl, q1.trans (hbz.mono q1.size)⟩
        have HS := Lib.hid hsm
        obtain ⟨hl2, hl11⟩ := small_lens hsm
        clear hsm
        by_cases k0 : x.f0 = 0
        · have e0 : (x.f0 == 0) = true := beq_iff_eq.mpr k0
          clear k0
          go_wp2_with (first | (go_at_call 27; refine (small_any x _ _ _ _ _ _ _).mono ?_; rw [HS.out]; rintro e w3 ⟨rfl, hb3⟩; have HX3 : Hid (w3.heap[wr.heap.size]? = some (BOX x A2 c2 A8 c8 A11 c11)) := Lib.hid ((hb3.block _ (by simp)).trans (heap_alloc_new _ _)); have hch : Below wr.heap.size wr w3.drew := (((Below.refl _ _).alloc (Nat.le_refl _) _).trans (hb3.mono (by simp))).drew; have HA := Lib.hid (HA0.out.below hch); have HS3 := Lib.hid (isStr_below HS0.out hch); have HR3 := Lib.hid (isRef_below HR0.out hch); have hs3 : wr.heap.size < w3.heap.size := (by have := hb3.size; simp at this; omega); obtain ⟨z0, z1, z2, z3, z4, z5, z6, z7, z8, z9, z10, z11⟩ := blk12 HX3.out))
          go_region_held3 (fun w' => w'.cell? ⟨wr.heap.size, 2, none⟩ = some (.slice A2 x.f2.length c2)) (go_keep)
            ((first
              | (go_at_call 28; refine (send_p g s _ _ _ x.f2 _ HS3.out (HG2.out _ HA.out.b)).mono ?_; rintro e w4 ⟨rfl, hS4, hm4⟩; have z2' := (hm4.blk HX3.out (fun hn => by have := (HA0.out.s _ hn); omega)); have HX4 := Lib.hid z2'; obtain ⟨_, _, y2, _, _, _, _, _, _, _, _, _⟩ := blk12 HX4.out)
              | (go_at_call 29; refine (send_r g' s _ _ x.f2 _ (half_r HA.out HR3.out hm4) (HG2.out _ (HA.out.b.trans (hm4.below (fun k hk => (HA.out.s k hk).1) HA.out.b.size))) l2).mono ?_; rintro e w5 ⟨rfl, hR5, hm5⟩; have z2'' := (hm5.blk HX4.out (fun hn => by have := (HA0.out.r _ hn); omega)); obtain ⟨_, _, y2', _, _, _, _, _, _, _, _, _⟩ := blk12 z2'')))
          have HBe := Lib.hid (both_step HA.out hS4 hm4 hR5 hm5)
          have HFe : Hid ((s.send x.f2).Fit) := Lib.hid (fit_send HF.out x.f2)
          generalize (s.send x.f2) = s1 at *
          obtain ⟨kS, kR, hae, hSe, hRe⟩ := HBe.out.open
          have HSe := Lib.hid hSe
          obtain ⟨gm, v, hb, hm, hq, okg, okm⟩ := id hRe
          obtain ⟨A9, c9, rfl, _⟩ := Kd.Q_slice hq
          obtain ⟨r0, r1, r2, r3, r4, r5, r6, r7⟩ := blk8 hb
          have HRe := Lib.hid hRe
          have n1 : (s1.done != s1.done) = false := bne_self_eq_false _
          have n2 : ((s1.wait.length : Int) != (s1.wait.length : Int)) = false := bne_self_eq_false _
          have n3 : (s1.id != s1.id) = false := bne_self_eq_false _
          clear hae hSe hRe hb hm hq okg okm r1 r2 r4 r5 r6 r7
          go_wp2_with fail
          go_quiet ((first
            | (go_at_call 40; exact Calls.quiet_of_same (done_s (isStr_below HSe.out (pw_below_drewN (Below.refl _ _) _))))
            | (go_at_call 41; exact Calls.quiet_of_same (done_t (isRef_below HRe.out (pw_below_drewN (Below.refl _ _) _))))
            | (go_at_call 42; exact Calls.quiet_of_same (waits_s (isStr_below HSe.out (pw_below_drewN (Below.refl _ _) _))))
            | (go_at_call 43; exact Calls.quiet_of_same (id_s (isStr_below HSe.out (pw_below_drewN (Below.refl _ _) _))))))
          go_wp2_with fail
          go_roundw
          case rel => exact ⟨k + 1, by omega, by go_num, s1, HFe.out, HBe.out.below (pw_below_drewN (Below.refl _ _) _)⟩
          case measure => simp [intOf]; omega
        have e0 : (x.f0 == 0) = false := beq_eq_false_iff_ne.mpr k0
        by_cases k1 : x.f0 = 1
        · have e1 : (x.f0 == 1) = true := beq_iff_eq.mpr k1
          clear k0 k1
          go_wp2_with (first
            | (go_at_call 27; refine (small_any x _ _ _ _ _ _ _).mono ?_; rw [HS.out]; rintro e w3 ⟨rfl, hb3⟩; have HX3 : Hid (w3.heap[wr.heap.size]? = some (BOX x A2 c2 A8 c8 A11 c11)) := Lib.hid ((hb3.block _ (by simp)).trans (heap_alloc_new _ _)); have hch : Below wr.heap.size wr w3 := (((Below.refl _ _).alloc (Nat.le_refl _) _).trans (hb3.mono (by simp))); have HA := Lib.hid (HA0.out.below hch); have HS3 := Lib.hid (isStr_below HS0.out hch); have HR3 := Lib.hid (isRef_below HR0.out hch); have hs3 : wr.heap.size < w3.heap.size := (by have := hb3.size; simp at this; omega); obtain ⟨z0, z1, z2, z3, z4, z5, z6, z7, z8, z9, z10, z11⟩ := blk12 HX3.out)
            | (go_at_call 30; refine (end_p (ok := okS) g s _ HS3.out).mono ?_; rintro e w4 ⟨rfl, hS4, hm4⟩)
            | (go_at_call 31; refine (end_r g' s _ (half_r HA.out HR3.out hm4)).mono ?_; rintro e w5 ⟨rfl, hR5, hm5⟩))
          have HBe := Lib.hid (both_step' HA.out hS4 hm4 hR5 hm5)
          have HFe : Hid (s.endIt.Fit) := Lib.hid (fit_endIt HF.out)
          generalize s.endIt = s1 at *
          obtain ⟨kS, kR, hae, hSe, hRe⟩ := HBe.out.open
          have HSe := Lib.hid hSe
          obtain ⟨gm, v, hb, hm, hq, okg, okm⟩ := id hRe
          obtain ⟨A9, c9, rfl, _⟩ := Kd.Q_slice hq
          obtain ⟨r0, r1, r2, r3, r4, r5, r6, r7⟩ := blk8 hb
          have HRe := Lib.hid hRe
          have n1 : (s1.done != s1.done) = false := bne_self_eq_false _
          have n2 : ((s1.wait.length : Int) != (s1.wait.length : Int)) = false := bne_self_eq_false _
          have n3 : (s1.id != s1.id) = false := bne_self_eq_false _
          clear hae hSe hRe hb hm hq okg okm r1 r2 r4 r5 r6 r7
          go_wp2_with fail
          go_quiet ((first
            | (go_at_call 40; exact Calls.quiet_of_same (done_s (isStr_below HSe.out (pw_below_drewN (Below.refl _ _) _))))
            | (go_at_call 41; exact Calls.quiet_of_same (done_t (isRef_below HRe.out (pw_below_drewN (Below.refl _ _) _))))
            | (go_at_call 42; exact Calls.quiet_of_same (waits_s (isStr_below HSe.out (pw_below_drewN (Below.refl _ _) _))))
            | (go_at_call 43; exact Calls.quiet_of_same (id_s (isStr_below HSe.out (pw_below_drewN (Below.refl _ _) _))))))
          go_wp2_with fail
          go_roundw
          case rel => exact ⟨k + 1, by omega, by go_num, s1, HFe.out, HBe.out.below (pw_below_drewN (Below.refl _ _) _)⟩
          case measure => simp [intOf]; omega
        have e1 : (x.f0 == 1) = false := beq_eq_false_iff_ne.mpr k1
        by_cases k2 : x.f0 = 2
        · have e2 : (x.f0 == 2) = true := beq_iff_eq.mpr k2
          clear k0 k1 k2
          obtain ⟨fa, fb, fc, hbf⟩ := breakF_form s x.f1
          have HBF := Lib.hid hbf
          clear hbf
          go_wp2_with (first
            | (go_at_call 27; refine (small_any x _ _ _ _ _ _ _).mono ?_; rw [HS.out]; rintro e w3 ⟨rfl, hb3⟩; have HX3 : Hid (w3.heap[wr.heap.size]? = some (BOX x A2 c2 A8 c8 A11 c11)) := Lib.hid ((hb3.block _ (by simp)).trans (heap_alloc_new _ _)); have hch : Below wr.heap.size wr w3 := (((Below.refl _ _).alloc (Nat.le_refl _) _).trans (hb3.mono (by simp))); have HA := Lib.hid (HA0.out.below hch); have HS3 := Lib.hid (isStr_below HS0.out hch); have HR3 := Lib.hid (isRef_below HR0.out hch); have hs3 : wr.heap.size < w3.heap.size := (by have := hb3.size; simp at this; omega); obtain ⟨z0, z1, z2, z3, z4, z5, z6, z7, z8, z9, z10, z11⟩ := blk12 HX3.out)
            | (go_at_call 32; refine (break_p g s x.f1 _ HS3.out).mono ?_; rw [HBF.out]; unfold plainF; rintro e w4 ⟨rfl, hS4, hm4⟩; have HX4 := Lib.hid (hm4.blk HX3.out (fun hn => by have := (HA0.out.s _ hn); omega)); obtain ⟨y0, y1, y2, y3, y4, y5, y6, y7, y8, y9, y10, y11⟩ := blk12 HX4.out; have ne4 := World.new_ne w4 _ y1; have hs4 : wr.heap.size < w4.heap.size := blk_lt HX4.out; have ns4 : ¬ wr.heap.size = w4.heap.size := Nat.ne_of_lt hs4)
            | (go_at_call 33; refine (break_r g' s x.f1 _ (isRef_below (half_r HA.out HR3.out hm4) ((Below.refl _ _).alloc (Nat.le_refl _) _))).mono ?_; rw [HBF.out]; unfold plainF; rintro e w5 ⟨rfl, hR5, hm5⟩; have hb9 := Lib.hid (hm5.blk (heap_alloc_new w4 _) (fun hn => by have := (HA.out.r _ hn); have := hm4.size; omega)); obtain ⟨⟨b0, b1, b2, b3, b4, b5, b6, b7, b8⟩, bf⟩ := blk9 hb9.out; have ne5 := World.new_ne w5 _ b0; have hs5 : w4.heap.size < w5.heap.size := blk_lt hb9.out; have ns5 : ¬ w4.heap.size = w5.heap.size := Nat.ne_of_lt hs5)
            | (go_at_call 34; refine (same_r ⟨fa, fb, fc, 0, z50, []⟩ ⟨fa, fb, fc, 0, z50, []⟩ none none none none 0 0 0 0 0 0 0 0 _ (nilC _) (nilC _) (nilC _) (nilC _)).mono ?_; rw [sameR_self]; rintro e w6 ⟨rfl, hb6⟩))
          have HBe := Lib.hid (((both_step' HA.out hS4 hm4 hR5 (((Mod.refl okR w4).alloc _).andThen hm5 (fun k hk => .inl hk))).below ((Below.refl _ _).alloc (Nat.le_refl _) _)).below hb6)
          have HFe : Hid ((s.break_ x.f1).Fit) := Lib.hid (fit_break HF.out x.f1)
          generalize (s.break_ x.f1) = s1 at *
          obtain ⟨kS, kR, hae, hSe, hRe⟩ := HBe.out.open
          have HSe := Lib.hid hSe
          obtain ⟨gm, v, hb, hm, hq, okg, okm⟩ := id hRe
          obtain ⟨A9, c9, rfl, _⟩ := Kd.Q_slice hq
          obtain ⟨r0, r1, r2, r3, r4, r5, r6, r7⟩ := blk8 hb
          have HRe := Lib.hid hRe
          have n1 : (s1.done != s1.done) = false := bne_self_eq_false _
          have n2 : ((s1.wait.length : Int) != (s1.wait.length : Int)) = false := bne_self_eq_false _
          have n3 : (s1.id != s1.id) = false := bne_self_eq_false _
          clear hae hSe hRe hb hm hq okg okm r1 r2 r4 r5 r6 r7
          go_wp2_with fail
          go_quiet ((first
            | (go_at_call 40; exact Calls.quiet_of_same (done_s (isStr_below HSe.out (pw_below_drewN (Below.refl _ _) _))))
            | (go_at_call 41; exact Calls.quiet_of_same (done_t (isRef_below HRe.out (pw_below_drewN (Below.refl _ _) _))))
            | (go_at_call 42; exact Calls.quiet_of_same (waits_s (isStr_below HSe.out (pw_below_drewN (Below.refl _ _) _))))
            | (go_at_call 43; exact Calls.quiet_of_same (id_s (isStr_below HSe.out (pw_below_drewN (Below.refl _ _) _))))))
          go_wp2_with fail
          go_roundw
          case rel => exact ⟨k + 1, by omega, by go_num, s1, HFe.out, HBe.out.below (pw_below_drewN (Below.refl _ _) _)⟩
          case measure => simp [intOf]; omega
        have e2 : (x.f0 == 2) = false := beq_eq_false_iff_ne.mpr k2
        by_cases k3 : x.f0 = 3
        · have e3 : (x.f0 == 3) = true := beq_iff_eq.mpr k3
          clear k0 k1 k2 k3
          go_wp2_with (first
            | (go_at_call 27; refine (small_any x _ _ _ _ _ _ _).mono ?_; rw [HS.out]; rintro e w3 ⟨rfl, hb3⟩; have HX3 : Hid (w3.heap[wr.heap.size]? = some (BOX x A2 c2 A8 c8 A11 c11)) := Lib.hid ((hb3.block _ (by simp)).trans (heap_alloc_new _ _)); have hch : Below wr.heap.size wr w3 := (((Below.refl _ _).alloc (Nat.le_refl _) _).trans (hb3.mono (by simp))); have HA := Lib.hid (HA0.out.below hch); have HS3 := Lib.hid (isStr_below HS0.out hch); have HR3 := Lib.hid (isRef_below HR0.out hch); have hs3 : wr.heap.size < w3.heap.size := (by have := hb3.size; simp at this; omega); obtain ⟨z0, z1, z2, z3, z4, z5, z6, z7, z8, z9, z10, z11⟩ := blk12 HX3.out)
            | (go_at_call 36; refine (next_p g s _ HS3.out HF.out).mono ?_; rintro e w4 ⟨B4, m4, d4, rfl, hV4, hS4, hm4⟩; obtain ⟨rfl, _, _⟩ := Kd.V_reads' hV4)
            | (go_at_call 37; refine (next_r g' s _ (half_r HA.out HR3.out hm4) HF.out).mono ?_; rintro e w5 ⟨B5, m5, d5, rfl, hV5, hR5, hm5⟩; obtain ⟨rfl, _, hC5⟩ := Kd.V_reads' hV5; have HC5 := Lib.hid hC5; have HC4 := Lib.hid ((Kd.V_reads' (Kd.V_step hV4 (fun k hk hlt => hm5.block k hlt (fun hn => by have := (HA.out.r _ hn); omega)))).2.2); clear hC5 hV4 hV5)
            | (go_at_call 35; refine (sameFrames_self B4 B5 _ d4 d5 s.next.1 _ HC4.out HC5.out).mono ?_; rintro e w6 ⟨rfl, hb6⟩))
          have HBe := Lib.hid ((both_step HA.out hS4 hm4 hR5 hm5).below hb6)
          have HFe : Hid (s.next.2.Fit) := Lib.hid (fit_next HF.out)
          generalize s.next.2 = s1 at *
          obtain ⟨kS, kR, hae, hSe, hRe⟩ := HBe.out.open
          have HSe := Lib.hid hSe
          obtain ⟨gm, v, hb, hm, hq, okg, okm⟩ := id hRe
          obtain ⟨A9, c9, rfl, _⟩ := Kd.Q_slice hq
          obtain ⟨r0, r1, r2, r3, r4, r5, r6, r7⟩ := blk8 hb
          have HRe := Lib.hid hRe
          have n1 : (s1.done != s1.done) = false := bne_self_eq_false _
          have n2 : ((s1.wait.length : Int) != (s1.wait.length : Int)) = false := bne_self_eq_false _
          have n3 : (s1.id != s1.id) = false := bne_self_eq_false _
          clear hae hSe hRe hb hm hq okg okm r1 r2 r4 r5 r6 r7
          go_wp2_with fail
          go_quiet ((first
            | (go_at_call 40; exact Calls.quiet_of_same (done_s (isStr_below HSe.out (pw_below_drewN (Below.refl _ _) _))))
            | (go_at_call 41; exact Calls.quiet_of_same (done_t (isRef_below HRe.out (pw_below_drewN (Below.refl _ _) _))))
            | (go_at_call 42; exact Calls.quiet_of_same (waits_s (isStr_below HSe.out (pw_below_drewN (Below.refl _ _) _))))
            | (go_at_call 43; exact Calls.quiet_of_same (id_s (isStr_below HSe.out (pw_below_drewN (Below.refl _ _) _))))))
          go_wp2_with fail
          go_roundw
          case rel => exact ⟨k + 1, by omega, by go_num, s1, HFe.out, HBe.out.below (pw_below_drewN (Below.refl _ _) _)⟩
          case measure => simp [intOf]; omega
        have e3 : (x.f0 == 3) = false := beq_eq_false_iff_ne.mpr k3
        clear k0 k1 k2 k3
        go_wp2_with (first
          | (go_at_call 27; refine (small_any x _ _ _ _ _ _ _).mono ?_; rw [HS.out]; rintro e w3 ⟨rfl, hb3⟩; have HX3 : Hid (w3.heap[wr.heap.size]? = some (BOX x A2 c2 A8 c8 A11 c11)) := Lib.hid ((hb3.block _ (by simp)).trans (heap_alloc_new _ _)); have hch : Below wr.heap.size wr w3 := (((Below.refl _ _).alloc (Nat.le_refl _) _).trans (hb3.mono (by simp))); have HA := Lib.hid (HA0.out.below hch); have HS3 := Lib.hid (isStr_below HS0.out hch); have HR3 := Lib.hid (isRef_below HR0.out hch); have hs3 : wr.heap.size < w3.heap.size := (by have := hb3.size; simp at this; omega); obtain ⟨z0, z1, z2, z3, z4, z5, z6, z7, z8, z9, z10, z11⟩ := blk12 HX3.out)
          | (go_at_call 38; refine (got_p g s x.f3 A8 A11 c8 c11 _ HS3.out HF.out.left0 HF.out.left1 (HG8.out _ HA.out.b) (HG11.out _ HA.out.b) l11 hnm (by omega)).mono ?_; rintro e w4 ⟨P4, p4, q4, B4, m4, d4, rfl, hP4, hV4, hS4, hm4⟩; obtain ⟨rfl, _, _⟩ := Kd.V_reads' hV4; obtain ⟨rfl, _, _⟩ := Kd.V_reads' hP4; have HV4 := Lib.hid hV4; have HP4 := Lib.hid hP4; have hB4 := HA.out.b.trans (hm4.below (fun k hk => (HA.out.s k hk).1) HA.out.b.size); clear hV4 hP4; have HX4 := Lib.hid (hm4.blk HX3.out (fun hn => by have := (HA0.out.s _ hn); omega)); obtain ⟨y0, y1, y2, y3, y4, y5, y6, y7, y8, y9, y10, y11⟩ := blk12 HX4.out; have ne4 := World.new_ne w4 _ y1; have hs4 : wr.heap.size < w4.heap.size := blk_lt HX4.out; have ns4 : ¬ wr.heap.size = w4.heap.size := Nat.ne_of_lt hs4)
          | (go_at_call 39; refine (got_r g' s x.f3 A8 A11 c8 c11 _ (half_r HA.out HR3.out hm4) HF.out.left0 HF.out.left1 (HG8.out _ hB4) (HG11.out _ hB4) l11 hnm (by omega)).mono ?_; rintro e w5 ⟨P5, p5, q5, B5, m5, d5, rfl, hP5, hV5, hR5, hm5⟩; obtain ⟨rfl, _, hC5⟩ := Kd.V_reads' hV5; obtain ⟨rfl, _, hD5⟩ := Kd.V_reads' hP5; have HC5 := Lib.hid hC5; have HC4 := Lib.hid ((Kd.V_reads' (Kd.V_step HV4.out (fun k hk hlt => hm5.block k hlt (fun hn => by have := (HA.out.r _ hn); omega)))).2.2); have hD4 := ((Kd.V_reads' (Kd.V_step HP4.out (fun k hk hlt => hm5.block k hlt (fun hn => by have := (HA.out.r _ hn); omega)))).2.2); have hs5 := string_B (c := q5) hD5; have hs4 := string_B (c := q4) hD4; clear hC5 hV5 hP5 hD5 hD4)
          | (go_at_call 35; refine (sameFrames_self B4 B5 _ d4 d5 (s.heard x.f3).2.1 _ HC4.out HC5.out).mono ?_; rintro e w6 ⟨rfl, hb6⟩))
        have HBe := Lib.hid ((both_step' HA.out hS4 hm4 hR5 hm5).below hb6)
        have HFe : Hid ((s.heard x.f3).2.2.2.Fit) := Lib.hid (fit_heard HF.out x.f3)
        generalize (s.heard x.f3).2.2.2 = s1 at *
        obtain ⟨kS, kR, hae, hSe, hRe⟩ := HBe.out.open
        have HSe := Lib.hid hSe
        obtain ⟨gm, v, hb, hm, hq, okg, okm⟩ := id hRe
        obtain ⟨A9, c9, rfl, _⟩ := Kd.Q_slice hq
        obtain ⟨r0, r1, r2, r3, r4, r5, r6, r7⟩ := blk8 hb
        have HRe := Lib.hid hRe
        have n1 : (s1.done != s1.done) = false := bne_self_eq_false _
        have n2 : ((s1.wait.length : Int) != (s1.wait.length : Int)) = false := bne_self_eq_false _
        have n3 : (s1.id != s1.id) = false := bne_self_eq_false _
        clear hae hSe hRe hb hm hq okg okm r1 r2 r4 r5 r6 r7
        go_wp2_with fail
        go_quiet ((first
          | (go_at_call 40; exact Calls.quiet_of_same (done_s (isStr_below HSe.out (pw_below_drewN (Below.refl _ _) _))))
          | (go_at_call 41; exact Calls.quiet_of_same (done_t (isRef_below HRe.out (pw_below_drewN (Below.refl _ _) _))))
          | (go_at_call 42; exact Calls.quiet_of_same (waits_s (isStr_below HSe.out (pw_below_drewN (Below.refl _ _) _))))
          | (go_at_call 43; exact Calls.quiet_of_same (id_s (isStr_below HSe.out (pw_below_drewN (Below.refl _ _) _))))))
        go_wp2_with fail
        go_roundw
        case rel => exact ⟨k + 1, by omega, by go_num, s1, HFe.out, HBe.out.below (pw_below_drewN (Below.refl _ _) _)⟩
        case measure => simp [intOf]; omega
end Go.Proofs.Ytcdhgpodoigddaa
