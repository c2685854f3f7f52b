/-
  When two frames are the same, by the program and by the reference.
-/
import Derived.Test.YtcdhgpodoigddaaF4
namespace Go.Proofs.Ytcdhgpodoigddaa
open Go.RowKit Go.Proofs.YtcdhgpodoigddaaW.PrintWords Go.Proofs.YtcdhgpodoigddaaW.PrintLast Go.Proofs.YtcdhgpodoigddaaW.PrintMore
set_option linter.unusedVariables false
set_option linter.unusedSimpArgs false
theorem bcell {W w1 : World} (hb : Below W.heap.size W w1) : (∀ b o, b < W.heap.size → w1.cell? ⟨b, o, none⟩ = W.cell? ⟨b, o, none⟩) ∧ (∀ b o, b < W.heap.size → w1.frozen? ⟨b, o, none⟩ = W.frozen? ⟨b, o, none⟩) :=
  ⟨fun b o h => hb.cell (p := ⟨b, o, none⟩) h, fun b o h => hb.frozen (p := ⟨b, o, none⟩) h⟩
def sameP (x y : S52) : Bool := x.f0 == y.f0 && (x.f1 == y.f1 && (x.f2 == y.f2 && (x.f3 == y.f3 && (sameAddrP x.f4 y.f4 && decide (x.f5 = y.f5)))))
def sameR (x y : S52) : Bool := x.f0 == y.f0 && (x.f1 == y.f1 && (x.f2 == y.f2 && (x.f3 == y.f3 && (sameAddrR x.f4 y.f4 && (strOfNums x.f5).toList == (strOfNums y.f5).toList))))

set_option maxHeartbeats 1600000 in
set_option maxRecDepth 100000 in
theorem same_p (x y : S52) (A A' B B' : Option Addr) (n n' m m' c c' d d' : Nat) (w : World) (hx : kB.C w A n x.f4.f1) (hx' : kB.C w A' n' x.f5) (hy : kB.C w B m y.f4.f1) (hy' : kB.C w B' m' y.f5) :
    Calls Try.prog 113 #[.agg #[.int .i64 x.f0, .int .i64 x.f1, .int .i64 x.f2, .int .i64 x.f3, .int .i64 x.f4.f0, .slice A n c, .string x.f4.f2, .int .i64 x.f4.f3, .slice A' n' c'], .agg #[.int .i64 y.f0, .int .i64 y.f1, .int .i64 y.f2, .int .i64 y.f3, .int .i64 y.f4.f0, .slice B m d, .string y.f4.f2, .int .i64 y.f4.f3, .slice B' m' d']] w fun e w' => e = .returned (.bool (sameP x y)) ∧ Below w.heap.size w w' := by
  have HX : ∀ o1 o2, Hid (kB.C ((w.alloc o1).alloc o2) A n x.f4.f1) := fun o1 o2 => Lib.hid (Kd.C_below hx (below2 w o1 o2))
  have HY : ∀ o1 o2, Hid (kB.C ((w.alloc o1).alloc o2) B m y.f4.f1) := fun o1 o2 => Lib.hid (Kd.C_below hy (below2 w o1 o2))
  have HX' : ∀ o1 o2, Hid (kB.C ((w.alloc o1).alloc o2) A' n' x.f5) := fun o1 o2 => Lib.hid (Kd.C_below hx' (below2 w o1 o2))
  have HY' : ∀ o1 o2, Hid (kB.C ((w.alloc o1).alloc o2) B' m' y.f5) := fun o1 o2 => Lib.hid (Kd.C_below hy' (below2 w o1 o2))
  clear hx hy hx' hy'
  unfold sameP
  by_cases h0 : x.f0 = y.f0
  · have e0 : (x.f0 == y.f0) = true := beq_iff_eq.mpr h0
    have E0 := Lib.hid e0
    clear h0
    by_cases h1 : x.f1 = y.f1
    · have e1 : (x.f1 == y.f1) = true := beq_iff_eq.mpr h1
      have E1 := Lib.hid e1
      clear h1
      by_cases h2 : x.f2 = y.f2
      · have e2 : (x.f2 == y.f2) = true := beq_iff_eq.mpr h2
        have E2 := Lib.hid e2
        clear h2
        by_cases h3 : x.f3 = y.f3
        · have e3 : (x.f3 == y.f3) = true := beq_iff_eq.mpr h3
          have E3 := Lib.hid e3
          clear h3
          rcases ha : sameAddrP x.f4 y.f4 with _ | _
          · have HA := Lib.hid ha
            clear ha
            go_enter Try.func113, Try.ntmps113
            go_wp2_with (go_at_call 138; refine (sameAddr_p x.f4 y.f4 _ _ _ _ _ _ _ (HX _ _).out (HY _ _).out).mono ?_; rw [HA.out]; rintro e w' ⟨rfl, hb⟩)
            go_ret
            exact ⟨by simp [E0.out, E1.out, E2.out, E3.out], (below2 _ _ _).trans (hb.mono (by simp; omega))⟩
          · have HA := Lib.hid ha
            clear ha
            go_enter Try.func113, Try.ntmps113
            go_wp2_with (first | (go_at_call 138; refine (sameAddr_p x.f4 y.f4 _ _ _ _ _ _ _ (HX _ _).out (HY _ _).out).mono ?_; rw [HA.out]; rintro e w' ⟨rfl, hb⟩; obtain ⟨bc, bf⟩ := bcell hb; have HX2 := Lib.hid (Kd.C_below (HX' _ _).out hb); have HY2 := Lib.hid (Kd.C_below (HY' _ _).out hb)) | (go_at_call 139; refine (equal_B _ _ _ _ _ _ _ _ _ HX2.out HY2.out).mono ?_; rintro e w' ⟨rfl, q, rfl⟩))
            go_ret
            exact ⟨by simp [E0.out, E1.out, E2.out, E3.out], below_drewN' ((below2 _ _ _).trans (hb.mono (by simp; omega))) _⟩
        · have e3 : (x.f3 == y.f3) = false := beq_eq_false_iff_ne.mpr h3
          have E3 := Lib.hid e3
          clear h3
          go_enter Try.func113, Try.ntmps113
          go_wp2_with fail
          go_ret
          exact ⟨by simp [E0.out, E1.out, E2.out, E3.out], below2 _ _ _⟩
      · have e2 : (x.f2 == y.f2) = false := beq_eq_false_iff_ne.mpr h2
        have E2 := Lib.hid e2
        clear h2
        go_enter Try.func113, Try.ntmps113
        go_wp2_with fail
        go_ret
        exact ⟨by simp [E0.out, E1.out, E2.out], below2 _ _ _⟩
    · have e1 : (x.f1 == y.f1) = false := beq_eq_false_iff_ne.mpr h1
      have E1 := Lib.hid e1
      clear h1
      go_enter Try.func113, Try.ntmps113
      go_wp2_with fail
      go_ret
      exact ⟨by simp [E0.out, E1.out], below2 _ _ _⟩
  · have e0 : (x.f0 == y.f0) = false := beq_eq_false_iff_ne.mpr h0
    have E0 := Lib.hid e0
    clear h0
    go_enter Try.func113, Try.ntmps113
    go_wp2_with fail
    go_ret
    exact ⟨by simp [E0.out], below2 _ _ _⟩

set_option maxHeartbeats 1600000 in
set_option maxRecDepth 100000 in
theorem same_r (x y : S52) (A A' B B' : Option Addr) (n n' m m' c c' d d' : Nat) (w : World) (hx : kB.C w A n x.f4.f1) (hx' : kB.C w A' n' x.f5) (hy : kB.C w B m y.f4.f1) (hy' : kB.C w B' m' y.f5) :
    Calls Try.prog 34 #[.agg #[.int .i64 x.f0, .int .i64 x.f1, .int .i64 x.f2, .int .i64 x.f3, .int .i64 x.f4.f0, .slice A n c, .string x.f4.f2, .int .i64 x.f4.f3, .slice A' n' c'], .agg #[.int .i64 y.f0, .int .i64 y.f1, .int .i64 y.f2, .int .i64 y.f3, .int .i64 y.f4.f0, .slice B m d, .string y.f4.f2, .int .i64 y.f4.f3, .slice B' m' d']] w fun e w' => e = .returned (.bool (sameR x y)) ∧ Below w.heap.size w w' := by
  have HX : ∀ o1 o2, Hid (kB.C ((w.alloc o1).alloc o2) A n x.f4.f1) := fun o1 o2 => Lib.hid (Kd.C_below hx (below2 w o1 o2))
  have HY : ∀ o1 o2, Hid (kB.C ((w.alloc o1).alloc o2) B m y.f4.f1) := fun o1 o2 => Lib.hid (Kd.C_below hy (below2 w o1 o2))
  have HX' : ∀ o1 o2, Hid (kB.C ((w.alloc o1).alloc o2) A' n' x.f5) := fun o1 o2 => Lib.hid (Kd.C_below hx' (below2 w o1 o2))
  have HY' : ∀ o1 o2, Hid (kB.C ((w.alloc o1).alloc o2) B' m' y.f5) := fun o1 o2 => Lib.hid (Kd.C_below hy' (below2 w o1 o2))
  clear hx hy hx' hy'
  unfold sameR
  by_cases h0 : x.f0 = y.f0
  · have e0 : (x.f0 == y.f0) = true := beq_iff_eq.mpr h0
    have E0 := Lib.hid e0
    clear h0
    by_cases h1 : x.f1 = y.f1
    · have e1 : (x.f1 == y.f1) = true := beq_iff_eq.mpr h1
      have E1 := Lib.hid e1
      clear h1
      by_cases h2 : x.f2 = y.f2
      · have e2 : (x.f2 == y.f2) = true := beq_iff_eq.mpr h2
        have E2 := Lib.hid e2
        clear h2
        by_cases h3 : x.f3 = y.f3
        · have e3 : (x.f3 == y.f3) = true := beq_iff_eq.mpr h3
          have E3 := Lib.hid e3
          clear h3
          rcases ha : sameAddrR x.f4 y.f4 with _ | _
          · have HA := Lib.hid ha
            clear ha
            go_enter Try.func34, Try.ntmps34
            go_wp2_with (go_at_call 90; refine (sameAddr_r x.f4 y.f4 _ _ _ _ _ _ _ (HX _ _).out (HY _ _).out).mono ?_; rw [HA.out]; rintro e w' ⟨rfl, hb⟩)
            go_ret
            exact ⟨by simp [E0.out, E1.out, E2.out, E3.out], (below2 _ _ _).trans (hb.mono (by simp; omega))⟩
          · have HA := Lib.hid ha
            clear ha
            generalize hs : strOfNums x.f5 = sx at *
            generalize ht : strOfNums y.f5 = sy at *
            have HS := Lib.hid hs
            have HT := Lib.hid ht
            clear hs ht
            go_enter Try.func34, Try.ntmps34
            go_wp2_with (first | (go_at_call 90; refine (sameAddr_r x.f4 y.f4 _ _ _ _ _ _ _ (HX _ _).out (HY _ _).out).mono ?_; rw [HA.out]; rintro e w' ⟨rfl, hb⟩; obtain ⟨bc, bf⟩ := bcell hb; have hs1 := string_B (c := c') (Kd.C_below (HX' _ _).out hb); have hs2 := string_B (c := d') (Kd.C_below (HY' _ _).out hb); rw [HS.out] at hs1; rw [HT.out] at hs2))
            go_ret
            exact ⟨by simp [E0.out, E1.out, E2.out, E3.out], (below2 _ _ _).trans (hb.mono (by simp; omega))⟩
        · have e3 : (x.f3 == y.f3) = false := beq_eq_false_iff_ne.mpr h3
          have E3 := Lib.hid e3
          clear h3
          go_enter Try.func34, Try.ntmps34
          go_wp2_with fail
          go_ret
          exact ⟨by simp [E0.out, E1.out, E2.out, E3.out], below2 _ _ _⟩
      · have e2 : (x.f2 == y.f2) = false := beq_eq_false_iff_ne.mpr h2
        have E2 := Lib.hid e2
        clear h2
        go_enter Try.func34, Try.ntmps34
        go_wp2_with fail
        go_ret
        exact ⟨by simp [E0.out, E1.out, E2.out], below2 _ _ _⟩
    · have e1 : (x.f1 == y.f1) = false := beq_eq_false_iff_ne.mpr h1
      have E1 := Lib.hid e1
      clear h1
      go_enter Try.func34, Try.ntmps34
      go_wp2_with fail
      go_ret
      exact ⟨by simp [E0.out, E1.out], below2 _ _ _⟩
  · have e0 : (x.f0 == y.f0) = false := beq_eq_false_iff_ne.mpr h0
    have E0 := Lib.hid e0
    clear h0
    go_enter Try.func34, Try.ntmps34
    go_wp2_with fail
    go_ret
    exact ⟨by simp [E0.out], below2 _ _ _⟩

end Go.Proofs.Ytcdhgpodoigddaa
