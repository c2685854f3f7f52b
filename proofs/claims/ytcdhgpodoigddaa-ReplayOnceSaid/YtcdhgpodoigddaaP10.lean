/-
  Check of both, at whatever is handed to it; what it answers keeps its bounds; the filter that every program must know.
-/
import Derived.Test.YtcdhgpodoigddaaP8
import Derived.Test.YtcdhgpodoigddaaP9
namespace Go.Proofs.Ytcdhgpodoigddaa
open Go.RowKit Go.Proofs.YtcdhgpodoigddaaW.PrintWords Go.Proofs.YtcdhgpodoigddaaW.PrintLast Go.Proofs.YtcdhgpodoigddaaW.PrintMore
set_option linter.unusedVariables false
attribute [local go_sem] max2_max min2_min max_two min_two
theorem good_true {now stamp : Int} {n : Nat} (h : goodB now stamp n = true) : now = cutT now ∧ stamp = cutT stamp ∧ n = 32 := by
  unfold goodB at h
  simp only [Bool.and_eq_true, beq_iff_eq] at h
  exact ⟨h.1.1, h.1.2, h.2⟩
theorem check_bad_eq {f : Fil} {now stamp : Int} {xs : List Int} (h : goodB now stamp xs.length = false) : f.check now stamp xs = (1, f) := by unfold Fil.check; rw [if_pos h]
theorem check_p {ok : Nat → Prop} (g : Nat) (f : Fil) (hF : f.Fit) (now stamp : Int) (A : Option Addr) (n c : Nat) (xs : List Int) (w : World) (hI : IsFil w ok g f) (hCM : ∀ W, Mod ok w W → kB.C W A n xs) (hok : ∀ k, ok k → k < w.heap.size) :
    Calls Try.prog 20 #[.pointer (some ⟨g, 0, none⟩), .int .i64 now, .int .i64 stamp, .slice A n c] w fun e w' => e = .returned (.int .i64 (f.check now stamp xs).1) ∧ IsFil w' (fun k => ok k ∨ w.heap.size ≤ k) g (f.check now stamp xs).2 ∧ Mod ok w w' := by
  have hn : xs.length = n := (hCM w (Mod.refl _ _)).1
  rcases hg : goodB now stamp n with _ | _
  · rw [check_bad_eq (hn ▸ hg)]
    exact (check_bad g f now stamp A n c w hI hg).mono fun e w' ⟨he, hb⟩ => ⟨he, isFil_mono (isFil_below hI hb) (fun k hk => .inl hk), Mod.of_below hb _⟩
  · obtain ⟨h1, h2, rfl⟩ := good_true hg
    exact check_good g f hF now stamp A c xs w hI hCM hok h1 h2
theorem check_r {ok : Nat → Prop} (g : Nat) (f : Fil) (hF : f.Fit) (hB : ∀ x ∈ f.l, ByteL x.e) (now stamp : Int) (A : Option Addr) (n c : Nat) (xs : List Int) (hxs : ByteL xs) (w : World) (hI : IsFilR w ok g f) (hCM : ∀ W, Mod ok w W → kB.C W A n xs) (hc : n ≤ c) (hok : ∀ k, ok k → k < w.heap.size) :
    Calls Try.prog 21 #[.pointer (some ⟨g, 0, none⟩), .int .i64 now, .int .i64 stamp, .slice A n c] w fun e w' => e = .returned (.int .i64 (f.check now stamp xs).1) ∧ IsFilR w' (fun k => ok k ∨ w.heap.size ≤ k) g (f.check now stamp xs).2 ∧ Mod ok w w' := by
  have hn : xs.length = n := (hCM w (Mod.refl _ _)).1
  rcases hg : goodB now stamp n with _ | _
  · rw [check_bad_eq (hn ▸ hg)]
    exact (checkR_bad g f now stamp A n c w hI hg).mono fun e w' ⟨he, hb⟩ => by subst hb; exact ⟨he, isFilR_mono hI (fun k hk => .inl hk), Mod.refl _ _⟩
  · obtain ⟨h1, h2, rfl⟩ := good_true hg
    exact checkR_good g f hF hB now stamp A c xs hxs w hI hCM hc hok h1 h2
/-- What a filter keeps: its numbers' bounds, bytes as keys. -/
structure Fil.Good (f : Fil) : Prop where
  fit : f.Fit
  byt : ∀ x ∈ f.l, ByteL x.e
theorem good_new (a b c : Int) : (Fil.new a b c).Good := by
  have h1 := cutT_bounds a
  have h2 := cutT_bounds c
  refine ⟨⟨h1.1, h1.2, by unfold Fil.new; simp only; omega, by unfold Fil.new; simp only; omega, by unfold Fil.new; simp only; omega, by unfold Fil.new; simp⟩, fun x hx => ?_⟩
  unfold Fil.new at hx
  simp at hx
theorem good_young {f : Fil} (h : f.Good) (now : Int) : ({ f with l := f.young now } : Fil).Good :=
  ⟨⟨h.fit.win0, h.fit.win1, h.fit.since0, h.fit.since1, h.fit.most1, by
    have h1 := List.length_filter_le (fun x => !oldB now f.win x) f.l
    have h2 := h.fit.len
    show ((f.young now).length : Int) ≤ 256
    have h3 : (f.young now).length ≤ f.l.length := h1
    omega⟩, fun x hx => h.byt x (List.mem_filter.1 hx).1⟩
theorem good_check {f : Fil} (h : f.Good) (now stamp : Int) (xs : List Int) (hx : ByteL xs) : (f.check now stamp xs).2.Good := by
  unfold Fil.check
  split
  · exact h
  split
  · exact good_young h now
  split
  · exact good_young h now
  split
  · exact good_young h now
  split
  · rename_i h1 h2 h3 h4 h5
    have hy := good_young h now
    have hm := h.fit.most1
    refine ⟨⟨hy.fit.win0, hy.fit.win1, hy.fit.since0, hy.fit.since1, hy.fit.most1, ?_⟩, fun x hxx => ?_⟩
    · simp only [List.length_append, List.length_singleton]
      omega
    · rcases List.mem_append.1 hxx with q | q
      · exact hy.byt x q
      · rw [List.mem_singleton.1 q]; exact hx
  · exact h
def zs32 : List Int := List.replicate 32 0
theorem zs32_length : zs32.length = 32 := by simp [zs32]
theorem zs32_bytes : ByteL zs32 := fun x hx => by rw [List.eq_of_mem_replicate hx]; omega
def fa0 : Fil := Fil.new 5 3 10
def fa1 : Fil := ⟨5, 3, 15, [⟨zs32, 16, zs32_length⟩]⟩
theorem fa0_eq : fa0 = ⟨5, 3, 15, []⟩ := by unfold fa0 Fil.new cutT; simp; exact ⟨by omega, by omega, by omega⟩
theorem aw1 : fa0.check 12 15 zs32 = (8, fa0) := by
  rw [fa0_eq]
  have h1 : goodB 12 15 zs32.length = true := by rw [zs32_length]; decide
  unfold Fil.check
  rw [if_neg (by rw [h1]; simp), if_pos (by decide)]
  rfl
theorem aw2 : fa0.check 12 16 zs32 = (0, fa1) := by
  rw [fa0_eq]
  have h1 : goodB 12 16 zs32.length = true := by rw [zs32_length]; decide
  unfold Fil.check
  rw [if_neg (by rw [h1]; simp), if_neg (by decide), if_neg (by simp [Fil.young]), if_neg (by simp [Fil.young]), dif_pos zs32_length]
  rfl
theorem aw3 : fa1.check 12 16 zs32 = (8, fa1) := by
  have h1 : goodB 12 16 zs32.length = true := by rw [zs32_length]; decide
  unfold Fil.check
  rw [if_neg (by rw [h1]; simp), if_neg (by decide), if_pos (by simp [Fil.young, fa1, oldB])]
  simp [Fil.young, fa1, oldB]
theorem fa1_good : fa1.Good := by
  have := good_check (good_new 5 3 10) 12 16 zs32 zs32_bytes
  have e : ((Fil.new 5 3 10).check 12 16 zs32).2 = fa1 := by have := aw2; unfold fa0 at this; rw [this]
  rwa [e] at this
theorem C_mod {w W : World} {S : Nat → Prop} {A : Option Addr} {n : Nat} {xs : List Int} (h : kB.C w A n xs) (hm : Mod S w W) (hS : ∀ ad, A = some ad → ¬ S ad.block) : kB.C W A n xs := by
  refine ⟨h.1, h.2.1, fun hn => ?_⟩
  obtain ⟨ad, he, hc⟩ := h.2.2 hn
  refine ⟨ad, he, fun j p hj => ?_⟩
  obtain ⟨c, hl, hK, hcc⟩ := hc j p hj
  exact ⟨c, hl, hK, fun i u hu => hm.cell (hcc i u hu) (by rw [add_block]; exact hS ad he)⟩
theorem key_row {W : World} {B : Nat} {v : Value} (h : kB.R 5 W B (fun k => B ≤ k) v (List.replicate (32 : Int).toNat 0)) : ∃ kb c, v = .slice (some ⟨kb, 0, none⟩) 32 c ∧ B ≤ kb ∧ kb < W.heap.size ∧ kB.C W (some ⟨kb, 0, none⟩) 32 zs32 ∧ 32 ≤ c := by
  have e : List.replicate (32 : Int).toNat (0 : Int) = zs32 := rfl
  rw [e] at h
  obtain ⟨g, cap, hv, h1, h2, _⟩ := Kd.R_form h (by rw [zs32_length]; decide)
  rw [zs32_length] at hv
  subst hv
  obtain ⟨_, h3, h4⟩ := Kd.R_reads' h
  rw [zs32_length] at h4
  exact ⟨g, cap, rfl, h1, h2, h4, h3⟩
set_option maxRecDepth 100000 in
set_option maxHeartbeats 2000000 in
theorem awake_p (w : World) : Calls Try.prog 23 #[] w fun e w' => e = .returned (.bool true) ∧ Below w.heap.size w w' := by
  have hF0 := (good_new 5 3 10).fit
  have hF1 := fa1_good.fit
  have HF0 := Lib.hid hF0
  have HF1 := Lib.hid hF1
  clear hF0 hF1
  go_enter Try.func23, Try.ntmps23
  go_wp2_with fail
  refine (new_fil_p 5 3 10 w).mono ?_
  rintro e w1 ⟨g, rfl, hI1, hb1⟩
  have HI1 := Lib.hid (isFil_bound hI1)
  have HB1 := Lib.hid hb1
  clear hI1 hb1
  go_wp2_with (at_make; refine Kd.R_make (P := Try.prog) kB (w0 := w1) w1.heap.size 5 rfl rfl 31 _ _ rfl 32 rfl rfl Try.underlying31 (.int .u8 0) 1 info5 rfl (by decide) (by decide) (0 : Int) (okp := fun _ => False) (ok := fun k => w1.heap.size ≤ k) rfl (fun _ h => h.elim) (Nat.le_refl _) (by decide) (by decide) (Below.refl _ _) (Nat.le_refl _) ?_; intro v1 w2 hR hb2 _ _; obtain ⟨kb, c, rfl, hk1, hk2, hC, hc32⟩ := key_row hR; have HB2 := Lib.hid hb2; have HC := Lib.hid hC; clear hR hb2 hC)
  have HK1 : Hid (∀ ad, (some (⟨kb, 0, none⟩ : Addr)) = some ad → ad.block = kb) := Lib.hid (fun ad he => by injection he with he; rw [← he])
  have HI2 := Lib.hid (isFil_below HI1.out HB2.out)
  have HM2 : Hid (∀ W, Mod (fun k => w.heap.size ≤ k ∧ k < w1.heap.size) w2 W → kB.C W (some ⟨kb, 0, none⟩) 32 zs32) := Lib.hid (fun W hm => C_mod HC.out hm (fun ad he => by rw [HK1.out ad he]; omega))
  have hs2 := HB2.out.size
  refine (check_p g fa0 HF0.out 12 15 _ 32 c zs32 w2 HI2.out HM2.out (fun k hk => by omega)).mono ?_
  rw [aw1]
  rintro e w3 ⟨rfl, hI3, hm3⟩
  have HI3 := Lib.hid (isFil_bound hI3)
  have HMo3 := Lib.hid hm3
  have HM3 : Hid (∀ W, Mod (fun k => ((w.heap.size ≤ k ∧ k < w1.heap.size) ∨ w2.heap.size ≤ k) ∧ k < w3.heap.size) w3 W → kB.C W (some ⟨kb, 0, none⟩) 32 zs32) := Lib.hid (fun W hm => C_mod (HM2.out w3 hm3) hm (fun ad he => by rw [HK1.out ad he]; omega))
  have hs3 := hm3.size
  clear hI3 hm3
  go_wp2_with fail
  refine (check_p g fa0 HF0.out 12 16 _ 32 c zs32 w3 HI3.out HM3.out (fun k hk => hk.2)).mono ?_
  rw [aw2]
  rintro e w4 ⟨rfl, hI4, hm4⟩
  have HI4 := Lib.hid (isFil_bound hI4)
  have HMo4 := Lib.hid hm4
  have HM4 : Hid (∀ W, Mod (fun k => ((((w.heap.size ≤ k ∧ k < w1.heap.size) ∨ w2.heap.size ≤ k) ∧ k < w3.heap.size) ∨ w3.heap.size ≤ k) ∧ k < w4.heap.size) w4 W → kB.C W (some ⟨kb, 0, none⟩) 32 zs32) := Lib.hid (fun W hm => C_mod (HM3.out w4 hm4) hm (fun ad he => by rw [HK1.out ad he]; omega))
  have hs4 := hm4.size
  clear hI4 hm4
  go_wp2_with fail
  refine (check_p g fa1 HF1.out 12 16 _ 32 c zs32 w4 HI4.out HM4.out (fun k hk => hk.2)).mono ?_
  rw [aw3]
  rintro e w5 ⟨rfl, hI5, hm5⟩
  have HI5 := Lib.hid hI5
  have HMo5 := Lib.hid hm5
  clear hI5 hm5
  go_wp2_with fail
  refine (len_p g fa1 w5 HI5.out).mono ?_
  rw [show ((fa1.l.length : Nat) : Int) = 1 from rfl]
  rintro e w6 ⟨rfl, rfl⟩
  go_wp2_with fail
  refine (since_p g fa1 w5 HI5.out).mono ?_
  rw [show fa1.since = 15 from rfl]
  rintro e w6 ⟨rfl, rfl⟩
  go_wp2_with fail
  go_ret
  have hs1 := HB1.out.size
  have b3 : Below w.heap.size w2 w3 := HMo3.out.below (fun k hk => hk.1) (by omega)
  have b4 : Below w.heap.size w3 w4 := HMo4.out.below (fun k hk => by omega) (by omega)
  have b5 : Below w.heap.size w4 w5 := HMo5.out.below (fun k hk => by omega) (by omega)
  exact ⟨rfl, (((HB1.out.trans (HB2.out.mono hs1)).trans b3).trans b4).trans b5⟩
end Go.Proofs.Ytcdhgpodoigddaa
