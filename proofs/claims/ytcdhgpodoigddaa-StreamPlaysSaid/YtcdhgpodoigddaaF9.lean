/-
  May a frame be, by the reference: it answers as the program does.
-/
import Derived.Test.YtcdhgpodoigddaaF8
namespace Go.Proofs.Ytcdhgpodoigddaa
open Go.RowKit Go.Proofs.YtcdhgpodoigddaaW.PrintWords Go.Proofs.YtcdhgpodoigddaaW.PrintLast Go.Proofs.YtcdhgpodoigddaaW.PrintMore
set_option linter.unusedVariables false
set_option linter.unusedSimpArgs false
theorem str_nil {xs : List Int} (h : (strOfNums xs).toList = []) : xs = [] := by
  have := congrArg List.length h
  simp [strOfNums] at this
  exact this
theorem sameR_plain {x y : S52} (h4 : y.f4.f1 = x.f4.f1 ∨ y.f4.f1 = []) (h5 : y.f5 = x.f5 ∨ y.f5 = []) : sameR x y = sameP x y := by
  have h : ∀ a b : List Int, (b = a ∨ b = []) → ((strOfNums a).toList == (strOfNums b).toList) = decide (a = b) := by
    intro a b hab
    rcases hab with rfl | rfl
    · simp
    · by_cases ha : a = []
      · subst ha; simp
      · rw [decide_eq_false ha]
        refine beq_eq_false_iff_ne.mpr fun hc => ha (str_nil ?_)
        rw [hc]; simp [strOfNums]
  unfold sameR sameP sameAddrR sameAddrP
  rw [h _ _ h4, h _ _ h5]
theorem set4 {w W : World} {b : Nat} {u0 u1 u2 u3 : Value} (hb : w.heap.size ≤ b) (h : Below w.heap.size w W) : Below w.heap.size w ((((W.setCell ⟨b, 4, none⟩ u0).setCell ⟨b, 5, none⟩ u1).setCell ⟨b, 6, none⟩ u2).setCell ⟨b, 7, none⟩ u3) :=
  (((h.setCell (p := ⟨b, 4, none⟩) hb _).setCell (p := ⟨b, 5, none⟩) hb _).setCell (p := ⟨b, 6, none⟩) hb _).setCell (p := ⟨b, 7, none⟩) hb _
theorem inB_low {a lo hi : Int} (h : a < lo) : inB a lo hi = false := by unfold inB; simp; omega
theorem inB_high {a lo hi : Int} (h : hi < a) : inB a lo hi = false := by unfold inB; simp; omega
theorem inB_in {a lo hi : Int} (h : lo ≤ a) (h' : a ≤ hi) : inB a lo hi = true := by unfold inB; simp; omega
set_option maxHeartbeats 4000000 in
set_option maxRecDepth 100000 in
theorem ref1 (x : S52) (A A' : Option Addr) (c c' : Nat) (w : World) (hx : kB.C w A x.f4.f1.length x.f4.f1) (hx' : kB.C w A' x.f5.length x.f5) (hs : x.f4.f2.size ≤ 9223372036854775807) (E1 : Hid ((x.f0 == 1) = true)) (E2 : Hid ((x.f0 == 2) = false)) (E3 : Hid ((x.f0 == 3) = false)) (E4 : Hid ((x.f0 == 4) = false)) (E5 : Hid ((x.f0 == 5) = false)) (E6 : Hid ((x.f0 == 6) = false)) (E7 : Hid ((x.f0 == 7) = false)) (E8 : Hid ((x.f0 == 8) = false)) (hk : 1 ≤ x.f0) (hk' : x.f0 ≤ 8) : Calls Try.prog 96 #[.agg #[.int .i64 x.f0, .int .i64 x.f1, .int .i64 x.f2, .int .i64 x.f3, .int .i64 x.f4.f0, .slice A x.f4.f1.length c, .string x.f4.f2, .int .i64 x.f4.f3, .slice A' x.f5.length c']] w fun e w' => e = .returned (.bool (frameB x)) ∧ Below w.heap.size w w' := by
  have HX : ∀ o1 o2, Hid (kB.C ((w.alloc o1).alloc o2) A x.f4.f1.length x.f4.f1) := fun o1 o2 => Lib.hid (Kd.C_below hx (below2 w o1 o2))
  have HX' : ∀ o1 o2, Hid (kB.C ((w.alloc o1).alloc o2) A' x.f5.length x.f5) := fun o1 o2 => Lib.hid (Kd.C_below hx' (below2 w o1 o2))
  have FB := Lib.hid (frameB_1 (beq_iff_eq.mp E1.out))
  have HX0 := Lib.hid hx
  have HX0' := Lib.hid hx'
  clear hx hx'
  have e1 := E1.out
  have e2 := E2.out
  have e3 := E3.out
  have e4 := E4.out
  have e5 := E5.out
  have e6 := E6.out
  have e7 := E7.out
  have e8 := E8.out
  by_cases h0 : x.f1 < 0
  · skip
    have HR : Hid (frameB x = false) := Lib.hid (by rw [FB.out, inB_low (show x.f1 < 1 by omega)]; try rfl)
    go_enter Try.func96, Try.ntmps96
    go_wp2_with fail
    go_ret
    exact ⟨by rw [HR.out]; try rfl, below2 _ _ _⟩
  by_cases h1 : 65535 < x.f1
  · skip
    have HR : Hid (frameB x = false) := Lib.hid (by rw [FB.out, inB_high h1]; try rfl)
    go_enter Try.func96, Try.ntmps96
    go_wp2_with fail
    go_ret
    exact ⟨by rw [HR.out]; try rfl, below2 _ _ _⟩
  rcases ez : (x.f1 == 0) with _ | _
  · skip
    rcases ht : addrB x.f4 with _ | _
    · have HT := Lib.hid ht
      have HR : Hid (frameB x = false) := Lib.hid (by rw [FB.out, inB_in (show (1:Int) ≤ x.f1 by have := beq_eq_false_iff_ne.mp ez; omega) (by omega), ht]; rfl)
      clear ht
      go_enter Try.func96, Try.ntmps96
      go_wp2_with (first | (go_at_call 119; refine (mayAddr_r x.f4 _ _ _ _ (HX _ _).out hs).mono ?_; rw [HT.out]; rintro e w' ⟨rfl, hb1⟩; obtain ⟨bc, bf⟩ := bcell hb1; have hb3 := set4 (u0 := .int .i64 x.f4.f0) (u1 := .slice A x.f4.f1.length c) (u2 := .string x.f4.f2) (u3 := .int .i64 x.f4.f3) (Nat.le_succ w.heap.size) ((below2 _ _ _).trans (hb1.mono (by simp; omega))); have HX2 := Lib.hid (Kd.C_below HX0.out hb3); have HX2' := Lib.hid (Kd.C_below HX0'.out hb3)))
      go_ret
      exact ⟨by rw [HR.out]; try rfl, (below2 _ _ _).trans (hb1.mono (by simp; omega))⟩
    · have HT := Lib.hid ht
      have HR : Hid (frameB x = sameP x ⟨x.f0, x.f1, 0, 0, x.f4, []⟩) := Lib.hid (by rw [FB.out, inB_in (show (1:Int) ≤ x.f1 by have := beq_eq_false_iff_ne.mp ez; omega) (by omega), ht]; rfl)
      clear ht
      go_enter Try.func96, Try.ntmps96
      go_wp2_with (first | (go_at_call 119; refine (mayAddr_r x.f4 _ _ _ _ (HX _ _).out hs).mono ?_; rw [HT.out]; rintro e w' ⟨rfl, hb1⟩; obtain ⟨bc, bf⟩ := bcell hb1; have hb3 := set4 (u0 := .int .i64 x.f4.f0) (u1 := .slice A x.f4.f1.length c) (u2 := .string x.f4.f2) (u3 := .int .i64 x.f4.f3) (Nat.le_succ w.heap.size) ((below2 _ _ _).trans (hb1.mono (by simp; omega))); have HX2 := Lib.hid (Kd.C_below HX0.out hb3); have HX2' := Lib.hid (Kd.C_below HX0'.out hb3)) | (go_at_call 34; refine (same_r x ⟨x.f0, x.f1, 0, 0, x.f4, []⟩ _ _ _ _ _ _ _ _ _ _ _ _ _ HX2.out HX2'.out HX2.out (nilC _)).mono ?_; rw [sameR_plain (by simp [z50]) (by simp)]; rintro e w' ⟨rfl, hb2⟩))
      go_ret
      exact ⟨by rw [HR.out]; try rfl, hb3.trans (hb2.mono (by have := hb1.size; simp at this; simp; omega))⟩
  · skip
    have HR : Hid (frameB x = false) := Lib.hid (by rw [FB.out, inB_low (show x.f1 < 1 by have := beq_iff_eq.mp ez; omega)]; try rfl)
    go_enter Try.func96, Try.ntmps96
    go_wp2_with fail
    go_ret
    exact ⟨by rw [HR.out]; try rfl, below2 _ _ _⟩
set_option maxHeartbeats 4000000 in
set_option maxRecDepth 100000 in
theorem ref2 (x : S52) (A A' : Option Addr) (c c' : Nat) (w : World) (hx : kB.C w A x.f4.f1.length x.f4.f1) (hx' : kB.C w A' x.f5.length x.f5) (hs : x.f4.f2.size ≤ 9223372036854775807) (E1 : Hid ((x.f0 == 1) = false)) (E2 : Hid ((x.f0 == 2) = true)) (E3 : Hid ((x.f0 == 3) = false)) (E4 : Hid ((x.f0 == 4) = false)) (E5 : Hid ((x.f0 == 5) = false)) (E6 : Hid ((x.f0 == 6) = false)) (E7 : Hid ((x.f0 == 7) = false)) (E8 : Hid ((x.f0 == 8) = false)) (hk : 1 ≤ x.f0) (hk' : x.f0 ≤ 8) : Calls Try.prog 96 #[.agg #[.int .i64 x.f0, .int .i64 x.f1, .int .i64 x.f2, .int .i64 x.f3, .int .i64 x.f4.f0, .slice A x.f4.f1.length c, .string x.f4.f2, .int .i64 x.f4.f3, .slice A' x.f5.length c']] w fun e w' => e = .returned (.bool (frameB x)) ∧ Below w.heap.size w w' := by
  have HX : ∀ o1 o2, Hid (kB.C ((w.alloc o1).alloc o2) A x.f4.f1.length x.f4.f1) := fun o1 o2 => Lib.hid (Kd.C_below hx (below2 w o1 o2))
  have HX' : ∀ o1 o2, Hid (kB.C ((w.alloc o1).alloc o2) A' x.f5.length x.f5) := fun o1 o2 => Lib.hid (Kd.C_below hx' (below2 w o1 o2))
  have FB := Lib.hid (frameB_2 (beq_iff_eq.mp E2.out))
  have HX0 := Lib.hid hx
  have HX0' := Lib.hid hx'
  clear hx hx'
  have e1 := E1.out
  have e2 := E2.out
  have e3 := E3.out
  have e4 := E4.out
  have e5 := E5.out
  have e6 := E6.out
  have e7 := E7.out
  have e8 := E8.out
  by_cases h0 : x.f1 < 0
  · skip
    have HR : Hid (frameB x = false) := Lib.hid (by rw [FB.out, inB_low (show x.f1 < 1 by omega)]; try rfl)
    go_enter Try.func96, Try.ntmps96
    go_wp2_with fail
    go_ret
    exact ⟨by rw [HR.out]; try rfl, below2 _ _ _⟩
  by_cases h1 : 65535 < x.f1
  · skip
    have HR : Hid (frameB x = false) := Lib.hid (by rw [FB.out, inB_high h1]; try rfl)
    go_enter Try.func96, Try.ntmps96
    go_wp2_with fail
    go_ret
    exact ⟨by rw [HR.out]; try rfl, below2 _ _ _⟩
  rcases ez : (x.f1 == 0) with _ | _
  · skip
    by_cases g0 : x.f2 < 0
    · skip
      have HR : Hid (frameB x = false) := Lib.hid (by rw [FB.out, inB_in (show (1:Int) ≤ x.f1 by have := beq_eq_false_iff_ne.mp ez; omega) (by omega), inB_low g0]; rfl)
      go_enter Try.func96, Try.ntmps96
      go_wp2_with fail
      go_ret
      exact ⟨by rw [HR.out]; try rfl, below2 _ _ _⟩
    by_cases g1 : 8 < x.f2
    · skip
      have HR : Hid (frameB x = false) := Lib.hid (by rw [FB.out, inB_in (show (1:Int) ≤ x.f1 by have := beq_eq_false_iff_ne.mp ez; omega) (by omega), inB_high g1]; rfl)
      go_enter Try.func96, Try.ntmps96
      go_wp2_with fail
      go_ret
      exact ⟨by rw [HR.out]; try rfl, below2 _ _ _⟩
    have HR : Hid (frameB x = sameP x ⟨x.f0, x.f1, x.f2, 0, z50, []⟩) := Lib.hid (by rw [FB.out, inB_in (show (1:Int) ≤ x.f1 by have := beq_eq_false_iff_ne.mp ez; omega) (by omega), inB_in (show (0:Int) ≤ x.f2 by omega) (by omega)]; rfl)
    go_enter Try.func96, Try.ntmps96
    go_wp2_with (first | (go_at_call 34; refine (same_r x ⟨x.f0, x.f1, x.f2, 0, z50, []⟩ _ _ _ _ _ _ _ _ _ _ _ _ _ (HX _ _).out (HX' _ _).out (nilC _) (nilC _)).mono ?_; rw [sameR_plain (by simp [z50]) (by simp)]; rintro e w' ⟨rfl, hb2⟩))
    go_ret
    exact ⟨by rw [HR.out]; try rfl, (below2 _ _ _).trans (hb2.mono (by simp; omega))⟩
  · skip
    have HR : Hid (frameB x = false) := Lib.hid (by rw [FB.out, inB_low (show x.f1 < 1 by have := beq_iff_eq.mp ez; omega)]; try rfl)
    go_enter Try.func96, Try.ntmps96
    go_wp2_with fail
    go_ret
    exact ⟨by rw [HR.out]; try rfl, below2 _ _ _⟩
set_option maxHeartbeats 4000000 in
set_option maxRecDepth 100000 in
theorem ref5 (x : S52) (A A' : Option Addr) (c c' : Nat) (w : World) (hx : kB.C w A x.f4.f1.length x.f4.f1) (hx' : kB.C w A' x.f5.length x.f5) (hs : x.f4.f2.size ≤ 9223372036854775807) (E1 : Hid ((x.f0 == 1) = false)) (E2 : Hid ((x.f0 == 2) = false)) (E3 : Hid ((x.f0 == 3) = false)) (E4 : Hid ((x.f0 == 4) = false)) (E5 : Hid ((x.f0 == 5) = true)) (E6 : Hid ((x.f0 == 6) = false)) (E7 : Hid ((x.f0 == 7) = false)) (E8 : Hid ((x.f0 == 8) = false)) (hk : 1 ≤ x.f0) (hk' : x.f0 ≤ 8) : Calls Try.prog 96 #[.agg #[.int .i64 x.f0, .int .i64 x.f1, .int .i64 x.f2, .int .i64 x.f3, .int .i64 x.f4.f0, .slice A x.f4.f1.length c, .string x.f4.f2, .int .i64 x.f4.f3, .slice A' x.f5.length c']] w fun e w' => e = .returned (.bool (frameB x)) ∧ Below w.heap.size w w' := by
  have HX : ∀ o1 o2, Hid (kB.C ((w.alloc o1).alloc o2) A x.f4.f1.length x.f4.f1) := fun o1 o2 => Lib.hid (Kd.C_below hx (below2 w o1 o2))
  have HX' : ∀ o1 o2, Hid (kB.C ((w.alloc o1).alloc o2) A' x.f5.length x.f5) := fun o1 o2 => Lib.hid (Kd.C_below hx' (below2 w o1 o2))
  have FB := Lib.hid (frameB_5 (beq_iff_eq.mp E5.out))
  have HX0 := Lib.hid hx
  have HX0' := Lib.hid hx'
  clear hx hx'
  have e1 := E1.out
  have e2 := E2.out
  have e3 := E3.out
  have e4 := E4.out
  have e5 := E5.out
  have e6 := E6.out
  have e7 := E7.out
  have e8 := E8.out
  by_cases h0 : x.f1 < 0
  · skip
    have HR : Hid (frameB x = false) := Lib.hid (by rw [FB.out, inB_low (show x.f1 < 1 by omega)]; try rfl)
    go_enter Try.func96, Try.ntmps96
    go_wp2_with fail
    go_ret
    exact ⟨by rw [HR.out]; try rfl, below2 _ _ _⟩
  by_cases h1 : 65535 < x.f1
  · skip
    have HR : Hid (frameB x = false) := Lib.hid (by rw [FB.out, inB_high h1]; try rfl)
    go_enter Try.func96, Try.ntmps96
    go_wp2_with fail
    go_ret
    exact ⟨by rw [HR.out]; try rfl, below2 _ _ _⟩
  rcases ez : (x.f1 == 0) with _ | _
  · skip
    by_cases g0 : x.f2 < 0
    · skip
      have HR : Hid (frameB x = false) := Lib.hid (by rw [FB.out, inB_in (show (1:Int) ≤ x.f1 by have := beq_eq_false_iff_ne.mp ez; omega) (by omega), inB_low g0]; rfl)
      go_enter Try.func96, Try.ntmps96
      go_wp2_with fail
      go_ret
      exact ⟨by rw [HR.out]; try rfl, below2 _ _ _⟩
    by_cases g1 : 255 < x.f2
    · skip
      have HR : Hid (frameB x = false) := Lib.hid (by rw [FB.out, inB_in (show (1:Int) ≤ x.f1 by have := beq_eq_false_iff_ne.mp ez; omega) (by omega), inB_high g1]; rfl)
      go_enter Try.func96, Try.ntmps96
      go_wp2_with fail
      go_ret
      exact ⟨by rw [HR.out]; try rfl, below2 _ _ _⟩
    have HR : Hid (frameB x = sameP x ⟨x.f0, x.f1, x.f2, 0, z50, []⟩) := Lib.hid (by rw [FB.out, inB_in (show (1:Int) ≤ x.f1 by have := beq_eq_false_iff_ne.mp ez; omega) (by omega), inB_in (show (0:Int) ≤ x.f2 by omega) (by omega)]; rfl)
    go_enter Try.func96, Try.ntmps96
    go_wp2_with (first | (go_at_call 34; refine (same_r x ⟨x.f0, x.f1, x.f2, 0, z50, []⟩ _ _ _ _ _ _ _ _ _ _ _ _ _ (HX _ _).out (HX' _ _).out (nilC _) (nilC _)).mono ?_; rw [sameR_plain (by simp [z50]) (by simp)]; rintro e w' ⟨rfl, hb2⟩))
    go_ret
    exact ⟨by rw [HR.out]; try rfl, (below2 _ _ _).trans (hb2.mono (by simp; omega))⟩
  · skip
    have HR : Hid (frameB x = false) := Lib.hid (by rw [FB.out, inB_low (show x.f1 < 1 by have := beq_iff_eq.mp ez; omega)]; try rfl)
    go_enter Try.func96, Try.ntmps96
    go_wp2_with fail
    go_ret
    exact ⟨by rw [HR.out]; try rfl, below2 _ _ _⟩
set_option maxHeartbeats 4000000 in
set_option maxRecDepth 100000 in
theorem ref3 (x : S52) (A A' : Option Addr) (c c' : Nat) (w : World) (hx : kB.C w A x.f4.f1.length x.f4.f1) (hx' : kB.C w A' x.f5.length x.f5) (hs : x.f4.f2.size ≤ 9223372036854775807) (E1 : Hid ((x.f0 == 1) = false)) (E2 : Hid ((x.f0 == 2) = false)) (E3 : Hid ((x.f0 == 3) = true)) (E4 : Hid ((x.f0 == 4) = false)) (E5 : Hid ((x.f0 == 5) = false)) (E6 : Hid ((x.f0 == 6) = false)) (E7 : Hid ((x.f0 == 7) = false)) (E8 : Hid ((x.f0 == 8) = false)) (hk : 1 ≤ x.f0) (hk' : x.f0 ≤ 8) : Calls Try.prog 96 #[.agg #[.int .i64 x.f0, .int .i64 x.f1, .int .i64 x.f2, .int .i64 x.f3, .int .i64 x.f4.f0, .slice A x.f4.f1.length c, .string x.f4.f2, .int .i64 x.f4.f3, .slice A' x.f5.length c']] w fun e w' => e = .returned (.bool (frameB x)) ∧ Below w.heap.size w w' := by
  have HX : ∀ o1 o2, Hid (kB.C ((w.alloc o1).alloc o2) A x.f4.f1.length x.f4.f1) := fun o1 o2 => Lib.hid (Kd.C_below hx (below2 w o1 o2))
  have HX' : ∀ o1 o2, Hid (kB.C ((w.alloc o1).alloc o2) A' x.f5.length x.f5) := fun o1 o2 => Lib.hid (Kd.C_below hx' (below2 w o1 o2))
  have FB := Lib.hid (frameB_3 (beq_iff_eq.mp E3.out))
  have HX0 := Lib.hid hx
  have HX0' := Lib.hid hx'
  clear hx hx'
  have e1 := E1.out
  have e2 := E2.out
  have e3 := E3.out
  have e4 := E4.out
  have e5 := E5.out
  have e6 := E6.out
  have e7 := E7.out
  have e8 := E8.out
  by_cases h0 : x.f1 < 0
  · skip
    have HR : Hid (frameB x = false) := Lib.hid (by rw [FB.out, inB_low (show x.f1 < 1 by omega)]; try rfl)
    go_enter Try.func96, Try.ntmps96
    go_wp2_with fail
    go_ret
    exact ⟨by rw [HR.out]; try rfl, below2 _ _ _⟩
  by_cases h1 : 65535 < x.f1
  · skip
    have HR : Hid (frameB x = false) := Lib.hid (by rw [FB.out, inB_high h1]; try rfl)
    go_enter Try.func96, Try.ntmps96
    go_wp2_with fail
    go_ret
    exact ⟨by rw [HR.out]; try rfl, below2 _ _ _⟩
  rcases ez : (x.f1 == 0) with _ | _
  · skip
    by_cases g0 : (x.f5.length : Int) < 1
    · skip
      have HR : Hid (frameB x = false) := Lib.hid (by rw [FB.out, inB_in (show (1:Int) ≤ x.f1 by have := beq_eq_false_iff_ne.mp ez; omega) (by omega), inB_low g0]; rfl)
      go_enter Try.func96, Try.ntmps96
      go_wp2_with fail
      go_ret
      exact ⟨by rw [HR.out]; try rfl, below2 _ _ _⟩
    by_cases g1 : 4000 < (x.f5.length : Int)
    · skip
      have HR : Hid (frameB x = false) := Lib.hid (by rw [FB.out, inB_in (show (1:Int) ≤ x.f1 by have := beq_eq_false_iff_ne.mp ez; omega) (by omega), inB_high g1]; rfl)
      go_enter Try.func96, Try.ntmps96
      go_wp2_with fail
      go_ret
      exact ⟨by rw [HR.out]; try rfl, below2 _ _ _⟩
    have HR : Hid (frameB x = sameP x ⟨x.f0, x.f1, 0, 0, z50, x.f5⟩) := Lib.hid (by rw [FB.out, inB_in (show (1:Int) ≤ x.f1 by have := beq_eq_false_iff_ne.mp ez; omega) (by omega), inB_in (show (1:Int) ≤ (x.f5.length : Int) by omega) (by omega)]; rfl)
    go_enter Try.func96, Try.ntmps96
    go_wp2_with (first | (go_at_call 34; refine (same_r x ⟨x.f0, x.f1, 0, 0, z50, x.f5⟩ _ _ _ _ _ _ _ _ _ _ _ _ _ (HX _ _).out (HX' _ _).out (nilC _) (HX' _ _).out).mono ?_; rw [sameR_plain (by simp [z50]) (by simp)]; rintro e w' ⟨rfl, hb2⟩))
    go_ret
    exact ⟨by rw [HR.out]; try rfl, (below2 _ _ _).trans (hb2.mono (by simp; omega))⟩
  · skip
    have HR : Hid (frameB x = false) := Lib.hid (by rw [FB.out, inB_low (show x.f1 < 1 by have := beq_iff_eq.mp ez; omega)]; try rfl)
    go_enter Try.func96, Try.ntmps96
    go_wp2_with fail
    go_ret
    exact ⟨by rw [HR.out]; try rfl, below2 _ _ _⟩
set_option maxHeartbeats 4000000 in
set_option maxRecDepth 100000 in
theorem ref6 (x : S52) (A A' : Option Addr) (c c' : Nat) (w : World) (hx : kB.C w A x.f4.f1.length x.f4.f1) (hx' : kB.C w A' x.f5.length x.f5) (hs : x.f4.f2.size ≤ 9223372036854775807) (E1 : Hid ((x.f0 == 1) = false)) (E2 : Hid ((x.f0 == 2) = false)) (E3 : Hid ((x.f0 == 3) = false)) (E4 : Hid ((x.f0 == 4) = false)) (E5 : Hid ((x.f0 == 5) = false)) (E6 : Hid ((x.f0 == 6) = true)) (E7 : Hid ((x.f0 == 7) = false)) (E8 : Hid ((x.f0 == 8) = false)) (hk : 1 ≤ x.f0) (hk' : x.f0 ≤ 8) : Calls Try.prog 96 #[.agg #[.int .i64 x.f0, .int .i64 x.f1, .int .i64 x.f2, .int .i64 x.f3, .int .i64 x.f4.f0, .slice A x.f4.f1.length c, .string x.f4.f2, .int .i64 x.f4.f3, .slice A' x.f5.length c']] w fun e w' => e = .returned (.bool (frameB x)) ∧ Below w.heap.size w w' := by
  have HX : ∀ o1 o2, Hid (kB.C ((w.alloc o1).alloc o2) A x.f4.f1.length x.f4.f1) := fun o1 o2 => Lib.hid (Kd.C_below hx (below2 w o1 o2))
  have HX' : ∀ o1 o2, Hid (kB.C ((w.alloc o1).alloc o2) A' x.f5.length x.f5) := fun o1 o2 => Lib.hid (Kd.C_below hx' (below2 w o1 o2))
  have FB := Lib.hid (frameB_6 (beq_iff_eq.mp E6.out))
  have HX0 := Lib.hid hx
  have HX0' := Lib.hid hx'
  clear hx hx'
  have e1 := E1.out
  have e2 := E2.out
  have e3 := E3.out
  have e4 := E4.out
  have e5 := E5.out
  have e6 := E6.out
  have e7 := E7.out
  have e8 := E8.out
  by_cases h0 : x.f1 < 0
  · skip
    have HR : Hid (frameB x = false) := Lib.hid (by rw [FB.out, inB_low (show x.f1 < 1 by omega)]; try rfl)
    go_enter Try.func96, Try.ntmps96
    go_wp2_with fail
    go_ret
    exact ⟨by rw [HR.out]; try rfl, below2 _ _ _⟩
  by_cases h1 : 65535 < x.f1
  · skip
    have HR : Hid (frameB x = false) := Lib.hid (by rw [FB.out, inB_high h1]; try rfl)
    go_enter Try.func96, Try.ntmps96
    go_wp2_with fail
    go_ret
    exact ⟨by rw [HR.out]; try rfl, below2 _ _ _⟩
  rcases ez : (x.f1 == 0) with _ | _
  · skip
    by_cases g0 : x.f3 < 1
    · skip
      have HR : Hid (frameB x = false) := Lib.hid (by rw [FB.out, inB_in (show (1:Int) ≤ x.f1 by have := beq_eq_false_iff_ne.mp ez; omega) (by omega), inB_low g0]; rfl)
      go_enter Try.func96, Try.ntmps96
      go_wp2_with fail
      go_ret
      exact ⟨by rw [HR.out]; try rfl, below2 _ _ _⟩
    by_cases g1 : 65536 < x.f3
    · skip
      have HR : Hid (frameB x = false) := Lib.hid (by rw [FB.out, inB_in (show (1:Int) ≤ x.f1 by have := beq_eq_false_iff_ne.mp ez; omega) (by omega), inB_high g1]; rfl)
      go_enter Try.func96, Try.ntmps96
      go_wp2_with fail
      go_ret
      exact ⟨by rw [HR.out]; try rfl, below2 _ _ _⟩
    have HR : Hid (frameB x = sameP x ⟨x.f0, x.f1, 0, x.f3, z50, []⟩) := Lib.hid (by rw [FB.out, inB_in (show (1:Int) ≤ x.f1 by have := beq_eq_false_iff_ne.mp ez; omega) (by omega), inB_in (show (1:Int) ≤ x.f3 by omega) (by omega)]; rfl)
    go_enter Try.func96, Try.ntmps96
    go_wp2_with (first | (go_at_call 34; refine (same_r x ⟨x.f0, x.f1, 0, x.f3, z50, []⟩ _ _ _ _ _ _ _ _ _ _ _ _ _ (HX _ _).out (HX' _ _).out (nilC _) (nilC _)).mono ?_; rw [sameR_plain (by simp [z50]) (by simp)]; rintro e w' ⟨rfl, hb2⟩))
    go_ret
    exact ⟨by rw [HR.out]; try rfl, (below2 _ _ _).trans (hb2.mono (by simp; omega))⟩
  · skip
    have HR : Hid (frameB x = false) := Lib.hid (by rw [FB.out, inB_low (show x.f1 < 1 by have := beq_iff_eq.mp ez; omega)]; try rfl)
    go_enter Try.func96, Try.ntmps96
    go_wp2_with fail
    go_ret
    exact ⟨by rw [HR.out]; try rfl, below2 _ _ _⟩
set_option maxHeartbeats 4000000 in
set_option maxRecDepth 100000 in
theorem ref7 (x : S52) (A A' : Option Addr) (c c' : Nat) (w : World) (hx : kB.C w A x.f4.f1.length x.f4.f1) (hx' : kB.C w A' x.f5.length x.f5) (hs : x.f4.f2.size ≤ 9223372036854775807) (E1 : Hid ((x.f0 == 1) = false)) (E2 : Hid ((x.f0 == 2) = false)) (E3 : Hid ((x.f0 == 3) = false)) (E4 : Hid ((x.f0 == 4) = false)) (E5 : Hid ((x.f0 == 5) = false)) (E6 : Hid ((x.f0 == 6) = false)) (E7 : Hid ((x.f0 == 7) = true)) (E8 : Hid ((x.f0 == 8) = false)) (hk : 1 ≤ x.f0) (hk' : x.f0 ≤ 8) : Calls Try.prog 96 #[.agg #[.int .i64 x.f0, .int .i64 x.f1, .int .i64 x.f2, .int .i64 x.f3, .int .i64 x.f4.f0, .slice A x.f4.f1.length c, .string x.f4.f2, .int .i64 x.f4.f3, .slice A' x.f5.length c']] w fun e w' => e = .returned (.bool (frameB x)) ∧ Below w.heap.size w w' := by
  have HX : ∀ o1 o2, Hid (kB.C ((w.alloc o1).alloc o2) A x.f4.f1.length x.f4.f1) := fun o1 o2 => Lib.hid (Kd.C_below hx (below2 w o1 o2))
  have HX' : ∀ o1 o2, Hid (kB.C ((w.alloc o1).alloc o2) A' x.f5.length x.f5) := fun o1 o2 => Lib.hid (Kd.C_below hx' (below2 w o1 o2))
  have FB := Lib.hid (frameB_7 (beq_iff_eq.mp E7.out))
  have HX0 := Lib.hid hx
  have HX0' := Lib.hid hx'
  clear hx hx'
  have e1 := E1.out
  have e2 := E2.out
  have e3 := E3.out
  have e4 := E4.out
  have e5 := E5.out
  have e6 := E6.out
  have e7 := E7.out
  have e8 := E8.out
  by_cases h0 : x.f1 < 0
  · skip
    have HR : Hid (frameB x = false) := Lib.hid (by rw [FB.out, beq_eq_false_iff_ne.mpr (show ¬ x.f1 = 0 by omega)]; try rfl)
    go_enter Try.func96, Try.ntmps96
    go_wp2_with fail
    go_ret
    exact ⟨by rw [HR.out]; try rfl, below2 _ _ _⟩
  by_cases h1 : 65535 < x.f1
  · skip
    have HR : Hid (frameB x = false) := Lib.hid (by rw [FB.out, beq_eq_false_iff_ne.mpr (show ¬ x.f1 = 0 by omega)]; try rfl)
    go_enter Try.func96, Try.ntmps96
    go_wp2_with fail
    go_ret
    exact ⟨by rw [HR.out]; try rfl, below2 _ _ _⟩
  rcases ez : (x.f1 == 0) with _ | _
  · skip
    have HR : Hid (frameB x = false) := Lib.hid (by rw [FB.out, ez]; try rfl)
    go_enter Try.func96, Try.ntmps96
    go_wp2_with fail
    go_ret
    exact ⟨by rw [HR.out]; try rfl, below2 _ _ _⟩
  · skip
    by_cases g0 : x.f3 < 0
    · skip
      have HR : Hid (frameB x = false) := Lib.hid (by rw [FB.out, beq_iff_eq.mpr (beq_iff_eq.mp ez), inB_low g0]; rfl)
      go_enter Try.func96, Try.ntmps96
      go_wp2_with fail
      go_ret
      exact ⟨by rw [HR.out]; try rfl, below2 _ _ _⟩
    by_cases g1 : 4294967295 < x.f3
    · skip
      have HR : Hid (frameB x = false) := Lib.hid (by rw [FB.out, beq_iff_eq.mpr (beq_iff_eq.mp ez), inB_high g1]; rfl)
      go_enter Try.func96, Try.ntmps96
      go_wp2_with fail
      go_ret
      exact ⟨by rw [HR.out]; try rfl, below2 _ _ _⟩
    have HR : Hid (frameB x = sameP x ⟨x.f0, x.f1, 0, x.f3, z50, []⟩) := Lib.hid (by rw [FB.out, beq_iff_eq.mpr (beq_iff_eq.mp ez), inB_in (show (0:Int) ≤ x.f3 by omega) (by omega)]; rfl)
    go_enter Try.func96, Try.ntmps96
    go_wp2_with (first | (go_at_call 34; refine (same_r x ⟨x.f0, x.f1, 0, x.f3, z50, []⟩ _ _ _ _ _ _ _ _ _ _ _ _ _ (HX _ _).out (HX' _ _).out (nilC _) (nilC _)).mono ?_; rw [sameR_plain (by simp [z50]) (by simp)]; rintro e w' ⟨rfl, hb2⟩))
    go_ret
    exact ⟨by rw [HR.out]; try rfl, (below2 _ _ _).trans (hb2.mono (by simp; omega))⟩
set_option maxHeartbeats 4000000 in
set_option maxRecDepth 100000 in
theorem ref8 (x : S52) (A A' : Option Addr) (c c' : Nat) (w : World) (hx : kB.C w A x.f4.f1.length x.f4.f1) (hx' : kB.C w A' x.f5.length x.f5) (hs : x.f4.f2.size ≤ 9223372036854775807) (E1 : Hid ((x.f0 == 1) = false)) (E2 : Hid ((x.f0 == 2) = false)) (E3 : Hid ((x.f0 == 3) = false)) (E4 : Hid ((x.f0 == 4) = false)) (E5 : Hid ((x.f0 == 5) = false)) (E6 : Hid ((x.f0 == 6) = false)) (E7 : Hid ((x.f0 == 7) = false)) (E8 : Hid ((x.f0 == 8) = true)) (hk : 1 ≤ x.f0) (hk' : x.f0 ≤ 8) : Calls Try.prog 96 #[.agg #[.int .i64 x.f0, .int .i64 x.f1, .int .i64 x.f2, .int .i64 x.f3, .int .i64 x.f4.f0, .slice A x.f4.f1.length c, .string x.f4.f2, .int .i64 x.f4.f3, .slice A' x.f5.length c']] w fun e w' => e = .returned (.bool (frameB x)) ∧ Below w.heap.size w w' := by
  have HX : ∀ o1 o2, Hid (kB.C ((w.alloc o1).alloc o2) A x.f4.f1.length x.f4.f1) := fun o1 o2 => Lib.hid (Kd.C_below hx (below2 w o1 o2))
  have HX' : ∀ o1 o2, Hid (kB.C ((w.alloc o1).alloc o2) A' x.f5.length x.f5) := fun o1 o2 => Lib.hid (Kd.C_below hx' (below2 w o1 o2))
  have FB := Lib.hid (frameB_8 (beq_iff_eq.mp E8.out))
  have HX0 := Lib.hid hx
  have HX0' := Lib.hid hx'
  clear hx hx'
  have e1 := E1.out
  have e2 := E2.out
  have e3 := E3.out
  have e4 := E4.out
  have e5 := E5.out
  have e6 := E6.out
  have e7 := E7.out
  have e8 := E8.out
  by_cases h0 : x.f1 < 0
  · skip
    have HR : Hid (frameB x = false) := Lib.hid (by rw [FB.out, beq_eq_false_iff_ne.mpr (show ¬ x.f1 = 0 by omega)]; try rfl)
    go_enter Try.func96, Try.ntmps96
    go_wp2_with fail
    go_ret
    exact ⟨by rw [HR.out]; try rfl, below2 _ _ _⟩
  by_cases h1 : 65535 < x.f1
  · skip
    have HR : Hid (frameB x = false) := Lib.hid (by rw [FB.out, beq_eq_false_iff_ne.mpr (show ¬ x.f1 = 0 by omega)]; try rfl)
    go_enter Try.func96, Try.ntmps96
    go_wp2_with fail
    go_ret
    exact ⟨by rw [HR.out]; try rfl, below2 _ _ _⟩
  rcases ez : (x.f1 == 0) with _ | _
  · skip
    have HR : Hid (frameB x = false) := Lib.hid (by rw [FB.out, ez]; try rfl)
    go_enter Try.func96, Try.ntmps96
    go_wp2_with fail
    go_ret
    exact ⟨by rw [HR.out]; try rfl, below2 _ _ _⟩
  · skip
    by_cases g0 : x.f3 < 0
    · skip
      have HR : Hid (frameB x = false) := Lib.hid (by rw [FB.out, beq_iff_eq.mpr (beq_iff_eq.mp ez), inB_low g0]; rfl)
      go_enter Try.func96, Try.ntmps96
      go_wp2_with fail
      go_ret
      exact ⟨by rw [HR.out]; try rfl, below2 _ _ _⟩
    by_cases g1 : 4294967295 < x.f3
    · skip
      have HR : Hid (frameB x = false) := Lib.hid (by rw [FB.out, beq_iff_eq.mpr (beq_iff_eq.mp ez), inB_high g1]; rfl)
      go_enter Try.func96, Try.ntmps96
      go_wp2_with fail
      go_ret
      exact ⟨by rw [HR.out]; try rfl, below2 _ _ _⟩
    have HR : Hid (frameB x = sameP x ⟨x.f0, x.f1, 0, x.f3, z50, []⟩) := Lib.hid (by rw [FB.out, beq_iff_eq.mpr (beq_iff_eq.mp ez), inB_in (show (0:Int) ≤ x.f3 by omega) (by omega)]; rfl)
    go_enter Try.func96, Try.ntmps96
    go_wp2_with (first | (go_at_call 34; refine (same_r x ⟨x.f0, x.f1, 0, x.f3, z50, []⟩ _ _ _ _ _ _ _ _ _ _ _ _ _ (HX _ _).out (HX' _ _).out (nilC _) (nilC _)).mono ?_; rw [sameR_plain (by simp [z50]) (by simp)]; rintro e w' ⟨rfl, hb2⟩))
    go_ret
    exact ⟨by rw [HR.out]; try rfl, (below2 _ _ _).trans (hb2.mono (by simp; omega))⟩
set_option maxHeartbeats 4000000 in
set_option maxRecDepth 100000 in
theorem ref4 (x : S52) (A A' : Option Addr) (c c' : Nat) (w : World) (hx : kB.C w A x.f4.f1.length x.f4.f1) (hx' : kB.C w A' x.f5.length x.f5) (hs : x.f4.f2.size ≤ 9223372036854775807) (E1 : Hid ((x.f0 == 1) = false)) (E2 : Hid ((x.f0 == 2) = false)) (E3 : Hid ((x.f0 == 3) = false)) (E4 : Hid ((x.f0 == 4) = true)) (E5 : Hid ((x.f0 == 5) = false)) (E6 : Hid ((x.f0 == 6) = false)) (E7 : Hid ((x.f0 == 7) = false)) (E8 : Hid ((x.f0 == 8) = false)) (hk : 1 ≤ x.f0) (hk' : x.f0 ≤ 8) : Calls Try.prog 96 #[.agg #[.int .i64 x.f0, .int .i64 x.f1, .int .i64 x.f2, .int .i64 x.f3, .int .i64 x.f4.f0, .slice A x.f4.f1.length c, .string x.f4.f2, .int .i64 x.f4.f3, .slice A' x.f5.length c']] w fun e w' => e = .returned (.bool (frameB x)) ∧ Below w.heap.size w w' := by
  have HX : ∀ o1 o2, Hid (kB.C ((w.alloc o1).alloc o2) A x.f4.f1.length x.f4.f1) := fun o1 o2 => Lib.hid (Kd.C_below hx (below2 w o1 o2))
  have HX' : ∀ o1 o2, Hid (kB.C ((w.alloc o1).alloc o2) A' x.f5.length x.f5) := fun o1 o2 => Lib.hid (Kd.C_below hx' (below2 w o1 o2))
  have FB := Lib.hid (frameB_4 (beq_iff_eq.mp E4.out))
  have HX0 := Lib.hid hx
  have HX0' := Lib.hid hx'
  clear hx hx'
  have e1 := E1.out
  have e2 := E2.out
  have e3 := E3.out
  have e4 := E4.out
  have e5 := E5.out
  have e6 := E6.out
  have e7 := E7.out
  have e8 := E8.out
  by_cases h0 : x.f1 < 0
  · skip
    have HR : Hid (frameB x = false) := Lib.hid (by rw [FB.out, inB_low (show x.f1 < 1 by omega)]; try rfl)
    go_enter Try.func96, Try.ntmps96
    go_wp2_with fail
    go_ret
    exact ⟨by rw [HR.out]; try rfl, below2 _ _ _⟩
  by_cases h1 : 65535 < x.f1
  · skip
    have HR : Hid (frameB x = false) := Lib.hid (by rw [FB.out, inB_high h1]; try rfl)
    go_enter Try.func96, Try.ntmps96
    go_wp2_with fail
    go_ret
    exact ⟨by rw [HR.out]; try rfl, below2 _ _ _⟩
  rcases ez : (x.f1 == 0) with _ | _
  · skip
    have HR : Hid (frameB x = sameP x ⟨x.f0, x.f1, 0, 0, z50, []⟩) := Lib.hid (by rw [FB.out, inB_in (show (1:Int) ≤ x.f1 by have := beq_eq_false_iff_ne.mp ez; omega) (by omega), Bool.true_and, Bool.true_and])
    go_enter Try.func96, Try.ntmps96
    go_wp2_with (first | (go_at_call 34; refine (same_r x ⟨x.f0, x.f1, 0, 0, z50, []⟩ _ _ _ _ _ _ _ _ _ _ _ _ _ (HX _ _).out (HX' _ _).out (nilC _) (nilC _)).mono ?_; rw [sameR_plain (by simp [z50]) (by simp)]; rintro e w' ⟨rfl, hb2⟩))
    go_ret
    exact ⟨by rw [HR.out]; try rfl, (below2 _ _ _).trans (hb2.mono (by simp; omega))⟩
  · skip
    have HR : Hid (frameB x = false) := Lib.hid (by rw [FB.out, inB_low (show x.f1 < 1 by have := beq_iff_eq.mp ez; omega)]; try rfl)
    go_enter Try.func96, Try.ntmps96
    go_wp2_with fail
    go_ret
    exact ⟨by rw [HR.out]; try rfl, below2 _ _ _⟩
set_option maxHeartbeats 4000000 in
set_option maxRecDepth 100000 in
theorem ref9 (x : S52) (A A' : Option Addr) (c c' : Nat) (w : World) (hx : kB.C w A x.f4.f1.length x.f4.f1) (hx' : kB.C w A' x.f5.length x.f5) (hs : x.f4.f2.size ≤ 9223372036854775807) (E1 : Hid ((x.f0 == 1) = false)) (E2 : Hid ((x.f0 == 2) = false)) (E3 : Hid ((x.f0 == 3) = false)) (E4 : Hid ((x.f0 == 4) = false)) (E5 : Hid ((x.f0 == 5) = false)) (E6 : Hid ((x.f0 == 6) = false)) (E7 : Hid ((x.f0 == 7) = false)) (E8 : Hid ((x.f0 == 8) = false)) : Calls Try.prog 96 #[.agg #[.int .i64 x.f0, .int .i64 x.f1, .int .i64 x.f2, .int .i64 x.f3, .int .i64 x.f4.f0, .slice A x.f4.f1.length c, .string x.f4.f2, .int .i64 x.f4.f3, .slice A' x.f5.length c']] w fun e w' => e = .returned (.bool (frameB x)) ∧ Below w.heap.size w w' := by
  have HX : ∀ o1 o2, Hid (kB.C ((w.alloc o1).alloc o2) A x.f4.f1.length x.f4.f1) := fun o1 o2 => Lib.hid (Kd.C_below hx (below2 w o1 o2))
  have HX' : ∀ o1 o2, Hid (kB.C ((w.alloc o1).alloc o2) A' x.f5.length x.f5) := fun o1 o2 => Lib.hid (Kd.C_below hx' (below2 w o1 o2))
  have HX0 := Lib.hid hx
  have HX0' := Lib.hid hx'
  clear hx hx'
  have e1 := E1.out
  have e2 := E2.out
  have e3 := E3.out
  have e4 := E4.out
  have e5 := E5.out
  have e6 := E6.out
  have e7 := E7.out
  have e8 := E8.out
  have HR : Hid (frameB x = false) := Lib.hid (frameB_no (beq_eq_false_iff_ne.mp e1) (beq_eq_false_iff_ne.mp e2) (beq_eq_false_iff_ne.mp e3) (beq_eq_false_iff_ne.mp e4) (beq_eq_false_iff_ne.mp e5) (beq_eq_false_iff_ne.mp e6) (beq_eq_false_iff_ne.mp e7) (beq_eq_false_iff_ne.mp e8))
  have hk : x.f0 < 1 ∨ (¬ x.f0 < 1 ∧ 8 < x.f0) := by
    have i1 := beq_eq_false_iff_ne.mp e1
    have i2 := beq_eq_false_iff_ne.mp e2
    have i3 := beq_eq_false_iff_ne.mp e3
    have i4 := beq_eq_false_iff_ne.mp e4
    have i5 := beq_eq_false_iff_ne.mp e5
    have i6 := beq_eq_false_iff_ne.mp e6
    have i7 := beq_eq_false_iff_ne.mp e7
    have i8 := beq_eq_false_iff_ne.mp e8
    omega
  rcases hk with hk | ⟨hk, hk'⟩
  · skip
    go_enter Try.func96, Try.ntmps96
    go_wp2_with fail
    go_ret
    exact ⟨by rw [HR.out]; try rfl, below2 _ _ _⟩
  · skip
    go_enter Try.func96, Try.ntmps96
    go_wp2_with fail
    go_ret
    exact ⟨by rw [HR.out]; try rfl, below2 _ _ _⟩
theorem mayFrame_r (x : S52) (A A' : Option Addr) (c c' : Nat) (w : World) (hx : kB.C w A x.f4.f1.length x.f4.f1) (hx' : kB.C w A' x.f5.length x.f5) (hs : x.f4.f2.size ≤ 9223372036854775807) : Calls Try.prog 96 #[.agg #[.int .i64 x.f0, .int .i64 x.f1, .int .i64 x.f2, .int .i64 x.f3, .int .i64 x.f4.f0, .slice A x.f4.f1.length c, .string x.f4.f2, .int .i64 x.f4.f3, .slice A' x.f5.length c']] w fun e w' => e = .returned (.bool (frameB x)) ∧ Below w.heap.size w w' := by
  by_cases k1 : x.f0 = 1
  · exact ref1 x A A' c c' w hx hx' hs (Lib.hid (beq_iff_eq.mpr k1)) (Lib.hid (beq_eq_false_iff_ne.mpr (by omega))) (Lib.hid (beq_eq_false_iff_ne.mpr (by omega))) (Lib.hid (beq_eq_false_iff_ne.mpr (by omega))) (Lib.hid (beq_eq_false_iff_ne.mpr (by omega))) (Lib.hid (beq_eq_false_iff_ne.mpr (by omega))) (Lib.hid (beq_eq_false_iff_ne.mpr (by omega))) (Lib.hid (beq_eq_false_iff_ne.mpr (by omega))) (by omega) (by omega)
  by_cases k2 : x.f0 = 2
  · exact ref2 x A A' c c' w hx hx' hs (Lib.hid (beq_eq_false_iff_ne.mpr (by omega))) (Lib.hid (beq_iff_eq.mpr k2)) (Lib.hid (beq_eq_false_iff_ne.mpr (by omega))) (Lib.hid (beq_eq_false_iff_ne.mpr (by omega))) (Lib.hid (beq_eq_false_iff_ne.mpr (by omega))) (Lib.hid (beq_eq_false_iff_ne.mpr (by omega))) (Lib.hid (beq_eq_false_iff_ne.mpr (by omega))) (Lib.hid (beq_eq_false_iff_ne.mpr (by omega))) (by omega) (by omega)
  by_cases k3 : x.f0 = 3
  · exact ref3 x A A' c c' w hx hx' hs (Lib.hid (beq_eq_false_iff_ne.mpr (by omega))) (Lib.hid (beq_eq_false_iff_ne.mpr (by omega))) (Lib.hid (beq_iff_eq.mpr k3)) (Lib.hid (beq_eq_false_iff_ne.mpr (by omega))) (Lib.hid (beq_eq_false_iff_ne.mpr (by omega))) (Lib.hid (beq_eq_false_iff_ne.mpr (by omega))) (Lib.hid (beq_eq_false_iff_ne.mpr (by omega))) (Lib.hid (beq_eq_false_iff_ne.mpr (by omega))) (by omega) (by omega)
  by_cases k4 : x.f0 = 4
  · exact ref4 x A A' c c' w hx hx' hs (Lib.hid (beq_eq_false_iff_ne.mpr (by omega))) (Lib.hid (beq_eq_false_iff_ne.mpr (by omega))) (Lib.hid (beq_eq_false_iff_ne.mpr (by omega))) (Lib.hid (beq_iff_eq.mpr k4)) (Lib.hid (beq_eq_false_iff_ne.mpr (by omega))) (Lib.hid (beq_eq_false_iff_ne.mpr (by omega))) (Lib.hid (beq_eq_false_iff_ne.mpr (by omega))) (Lib.hid (beq_eq_false_iff_ne.mpr (by omega))) (by omega) (by omega)
  by_cases k5 : x.f0 = 5
  · exact ref5 x A A' c c' w hx hx' hs (Lib.hid (beq_eq_false_iff_ne.mpr (by omega))) (Lib.hid (beq_eq_false_iff_ne.mpr (by omega))) (Lib.hid (beq_eq_false_iff_ne.mpr (by omega))) (Lib.hid (beq_eq_false_iff_ne.mpr (by omega))) (Lib.hid (beq_iff_eq.mpr k5)) (Lib.hid (beq_eq_false_iff_ne.mpr (by omega))) (Lib.hid (beq_eq_false_iff_ne.mpr (by omega))) (Lib.hid (beq_eq_false_iff_ne.mpr (by omega))) (by omega) (by omega)
  by_cases k6 : x.f0 = 6
  · exact ref6 x A A' c c' w hx hx' hs (Lib.hid (beq_eq_false_iff_ne.mpr (by omega))) (Lib.hid (beq_eq_false_iff_ne.mpr (by omega))) (Lib.hid (beq_eq_false_iff_ne.mpr (by omega))) (Lib.hid (beq_eq_false_iff_ne.mpr (by omega))) (Lib.hid (beq_eq_false_iff_ne.mpr (by omega))) (Lib.hid (beq_iff_eq.mpr k6)) (Lib.hid (beq_eq_false_iff_ne.mpr (by omega))) (Lib.hid (beq_eq_false_iff_ne.mpr (by omega))) (by omega) (by omega)
  by_cases k7 : x.f0 = 7
  · exact ref7 x A A' c c' w hx hx' hs (Lib.hid (beq_eq_false_iff_ne.mpr (by omega))) (Lib.hid (beq_eq_false_iff_ne.mpr (by omega))) (Lib.hid (beq_eq_false_iff_ne.mpr (by omega))) (Lib.hid (beq_eq_false_iff_ne.mpr (by omega))) (Lib.hid (beq_eq_false_iff_ne.mpr (by omega))) (Lib.hid (beq_eq_false_iff_ne.mpr (by omega))) (Lib.hid (beq_iff_eq.mpr k7)) (Lib.hid (beq_eq_false_iff_ne.mpr (by omega))) (by omega) (by omega)
  by_cases k8 : x.f0 = 8
  · exact ref8 x A A' c c' w hx hx' hs (Lib.hid (beq_eq_false_iff_ne.mpr (by omega))) (Lib.hid (beq_eq_false_iff_ne.mpr (by omega))) (Lib.hid (beq_eq_false_iff_ne.mpr (by omega))) (Lib.hid (beq_eq_false_iff_ne.mpr (by omega))) (Lib.hid (beq_eq_false_iff_ne.mpr (by omega))) (Lib.hid (beq_eq_false_iff_ne.mpr (by omega))) (Lib.hid (beq_eq_false_iff_ne.mpr (by omega))) (Lib.hid (beq_iff_eq.mpr k8)) (by omega) (by omega)
  exact ref9 x A A' c c' w hx hx' hs (Lib.hid (beq_eq_false_iff_ne.mpr k1)) (Lib.hid (beq_eq_false_iff_ne.mpr k2)) (Lib.hid (beq_eq_false_iff_ne.mpr k3)) (Lib.hid (beq_eq_false_iff_ne.mpr k4)) (Lib.hid (beq_eq_false_iff_ne.mpr k5)) (Lib.hid (beq_eq_false_iff_ne.mpr k6)) (Lib.hid (beq_eq_false_iff_ne.mpr k7)) (Lib.hid (beq_eq_false_iff_ne.mpr k8))
end Go.Proofs.Ytcdhgpodoigddaa
