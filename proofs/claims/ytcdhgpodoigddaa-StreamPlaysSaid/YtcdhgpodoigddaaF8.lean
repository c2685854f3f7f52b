/-
  May a frame be, by the program.
-/
import Derived.Test.YtcdhgpodoigddaaF7
namespace Go.Proofs.Ytcdhgpodoigddaa
open Go.RowKit Go.Proofs.YtcdhgpodoigddaaW.PrintWords Go.Proofs.YtcdhgpodoigddaaW.PrintLast Go.Proofs.YtcdhgpodoigddaaW.PrintMore
set_option linter.unusedVariables false
set_option linter.unusedSimpArgs false
def frameB (x : S52) : Bool :=
  if x.f0 = 1 then ((inB x.f1 1 65535) && (addrB x.f4)) && sameP x ⟨x.f0, x.f1, 0, 0, x.f4, []⟩ else
  if x.f0 = 2 then ((inB x.f1 1 65535) && (inB x.f2 0 8)) && sameP x ⟨x.f0, x.f1, x.f2, 0, z50, []⟩ else
  if x.f0 = 5 then ((inB x.f1 1 65535) && (inB x.f2 0 255)) && sameP x ⟨x.f0, x.f1, x.f2, 0, z50, []⟩ else
  if x.f0 = 3 then ((inB x.f1 1 65535) && (inB (x.f5.length : Int) 1 4000)) && sameP x ⟨x.f0, x.f1, 0, 0, z50, x.f5⟩ else
  if x.f0 = 6 then ((inB x.f1 1 65535) && (inB x.f3 1 65536)) && sameP x ⟨x.f0, x.f1, 0, x.f3, z50, []⟩ else
  if x.f0 = 7 then ((x.f1 == 0) && (inB x.f3 0 4294967295)) && sameP x ⟨x.f0, x.f1, 0, x.f3, z50, []⟩ else
  if x.f0 = 8 then ((x.f1 == 0) && (inB x.f3 0 4294967295)) && sameP x ⟨x.f0, x.f1, 0, x.f3, z50, []⟩ else
  if x.f0 = 4 then ((inB x.f1 1 65535) && (true)) && sameP x ⟨x.f0, x.f1, 0, 0, z50, []⟩ else
  false
theorem frameB_1 {x : S52} (h : x.f0 = 1) : frameB x = (((inB x.f1 1 65535) && (addrB x.f4)) && sameP x ⟨x.f0, x.f1, 0, 0, x.f4, []⟩) := by unfold frameB; simp [h]
theorem frameB_2 {x : S52} (h : x.f0 = 2) : frameB x = (((inB x.f1 1 65535) && (inB x.f2 0 8)) && sameP x ⟨x.f0, x.f1, x.f2, 0, z50, []⟩) := by unfold frameB; simp [h]
theorem frameB_5 {x : S52} (h : x.f0 = 5) : frameB x = (((inB x.f1 1 65535) && (inB x.f2 0 255)) && sameP x ⟨x.f0, x.f1, x.f2, 0, z50, []⟩) := by unfold frameB; simp [h]
theorem frameB_3 {x : S52} (h : x.f0 = 3) : frameB x = (((inB x.f1 1 65535) && (inB (x.f5.length : Int) 1 4000)) && sameP x ⟨x.f0, x.f1, 0, 0, z50, x.f5⟩) := by unfold frameB; simp [h]
theorem frameB_6 {x : S52} (h : x.f0 = 6) : frameB x = (((inB x.f1 1 65535) && (inB x.f3 1 65536)) && sameP x ⟨x.f0, x.f1, 0, x.f3, z50, []⟩) := by unfold frameB; simp [h]
theorem frameB_7 {x : S52} (h : x.f0 = 7) : frameB x = (((x.f1 == 0) && (inB x.f3 0 4294967295)) && sameP x ⟨x.f0, x.f1, 0, x.f3, z50, []⟩) := by unfold frameB; simp [h]
theorem frameB_8 {x : S52} (h : x.f0 = 8) : frameB x = (((x.f1 == 0) && (inB x.f3 0 4294967295)) && sameP x ⟨x.f0, x.f1, 0, x.f3, z50, []⟩) := by unfold frameB; simp [h]
theorem frameB_4 {x : S52} (h : x.f0 = 4) : frameB x = (((inB x.f1 1 65535) && (true)) && sameP x ⟨x.f0, x.f1, 0, 0, z50, []⟩) := by unfold frameB; simp [h]
theorem frameB_no {x : S52} (h1 : ¬ x.f0 = 1) (h2 : ¬ x.f0 = 2) (h3 : ¬ x.f0 = 3) (h4 : ¬ x.f0 = 4) (h5 : ¬ x.f0 = 5) (h6 : ¬ x.f0 = 6) (h7 : ¬ x.f0 = 7) (h8 : ¬ x.f0 = 8) : frameB x = false := by unfold frameB; simp [h1, h2, h3, h4, h5, h6, h7, h8]
theorem nilC (W : World) : kB.C W none 0 [] := Kd.C_nil _ _
set_option maxHeartbeats 4000000 in
set_option maxRecDepth 100000 in
theorem may1 (x : S52) (A A' : Option Addr) (c c' : Nat) (w : World) (hx : kB.C w A x.f4.f1.length x.f4.f1) (hx' : kB.C w A' x.f5.length x.f5) (hs : x.f4.f2.size ≤ 9223372036854775807) (E1 : Hid ((x.f0 == 1) = true)) : Calls Try.prog 74 #[.agg #[.int .i64 x.f0, .int .i64 x.f1, .int .i64 x.f2, .int .i64 x.f3, .int .i64 x.f4.f0, .slice A x.f4.f1.length c, .string x.f4.f2, .int .i64 x.f4.f3, .slice A' x.f5.length c']] w fun e w' => e = .returned (.bool (((inB x.f1 1 65535) && (addrB x.f4)) && sameP x ⟨x.f0, x.f1, 0, 0, x.f4, []⟩)) ∧ Below w.heap.size w w' := by
  have HX : ∀ o1 o2, Hid (kB.C ((w.alloc o1).alloc o2) A x.f4.f1.length x.f4.f1) := fun o1 o2 => Lib.hid (Kd.C_below hx (below2 w o1 o2))
  have HX' : ∀ o1 o2, Hid (kB.C ((w.alloc o1).alloc o2) A' x.f5.length x.f5) := fun o1 o2 => Lib.hid (Kd.C_below hx' (below2 w o1 o2))
  clear hx hx'
  have e1 := E1.out
  rcases hst : inB x.f1 1 65535 with _ | _
  · have HS := Lib.hid hst
    clear hst
    go_enter Try.func74, Try.ntmps74
    go_wp2_with (first | (go_at_call 111; refine (in_any _ _ _ _).mono ?_; rw [HS.out]; rintro e w' ⟨rfl, rfl⟩))
    go_ret
    refine ⟨?_, below2 _ _ _⟩
    try simp only [HS.out, Bool.false_and, Bool.false_and]
    try rfl
  · have HS := Lib.hid hst
    clear hst
    rcases ht : addrB x.f4 with _ | _
    · have HT := Lib.hid ht
      clear ht
      go_enter Try.func74, Try.ntmps74
      go_wp2_with (first | (go_at_call 111; refine (in_any _ _ _ _).mono ?_; rw [HS.out]; rintro e w' ⟨rfl, rfl⟩) | (go_at_call 112; refine (mayAddr_p x.f4 _ _ _ _ (HX _ _).out hs).mono ?_; rw [HT.out]; rintro e w' ⟨rfl, hb1⟩; obtain ⟨bc, bf⟩ := bcell hb1; have HX2 := Lib.hid (Kd.C_below (HX _ _).out hb1); have HX2' := Lib.hid (Kd.C_below (HX' _ _).out hb1)))
      go_ret
      refine ⟨?_, (below2 _ _ _).trans (hb1.mono (by simp; omega))⟩
      try simp only [HS.out, HT.out, Bool.true_and, Bool.false_and]
      try rfl
    · have HT := Lib.hid ht
      clear ht
      go_enter Try.func74, Try.ntmps74
      go_wp2_with (first | (go_at_call 111; refine (in_any _ _ _ _).mono ?_; rw [HS.out]; rintro e w' ⟨rfl, rfl⟩) | (go_at_call 112; refine (mayAddr_p x.f4 _ _ _ _ (HX _ _).out hs).mono ?_; rw [HT.out]; rintro e w' ⟨rfl, hb1⟩; obtain ⟨bc, bf⟩ := bcell hb1; have HX2 := Lib.hid (Kd.C_below (HX _ _).out hb1); have HX2' := Lib.hid (Kd.C_below (HX' _ _).out hb1)) | (go_at_call 113; refine (same_p x ⟨x.f0, x.f1, 0, 0, x.f4, []⟩ _ _ _ _ _ _ _ _ _ _ _ _ _ HX2.out HX2'.out HX2.out (nilC _)).mono ?_; rintro e w' ⟨rfl, hb2⟩))
      go_ret
      refine ⟨?_, ((below2 _ _ _).trans (hb1.mono (by simp; omega))).trans (hb2.mono (by have := hb1.size; simp at this; omega))⟩
      try simp only [HS.out, HT.out, Bool.true_and, Bool.true_and]
      try rfl
set_option maxHeartbeats 4000000 in
set_option maxRecDepth 100000 in
theorem may2 (x : S52) (A A' : Option Addr) (c c' : Nat) (w : World) (hx : kB.C w A x.f4.f1.length x.f4.f1) (hx' : kB.C w A' x.f5.length x.f5) (hs : x.f4.f2.size ≤ 9223372036854775807) (E1 : Hid ((x.f0 == 1) = false)) (E2 : Hid ((x.f0 == 2) = true)) : Calls Try.prog 74 #[.agg #[.int .i64 x.f0, .int .i64 x.f1, .int .i64 x.f2, .int .i64 x.f3, .int .i64 x.f4.f0, .slice A x.f4.f1.length c, .string x.f4.f2, .int .i64 x.f4.f3, .slice A' x.f5.length c']] w fun e w' => e = .returned (.bool (((inB x.f1 1 65535) && (inB x.f2 0 8)) && sameP x ⟨x.f0, x.f1, x.f2, 0, z50, []⟩)) ∧ Below w.heap.size w w' := by
  have HX : ∀ o1 o2, Hid (kB.C ((w.alloc o1).alloc o2) A x.f4.f1.length x.f4.f1) := fun o1 o2 => Lib.hid (Kd.C_below hx (below2 w o1 o2))
  have HX' : ∀ o1 o2, Hid (kB.C ((w.alloc o1).alloc o2) A' x.f5.length x.f5) := fun o1 o2 => Lib.hid (Kd.C_below hx' (below2 w o1 o2))
  clear hx hx'
  have e1 := E1.out
  have e2 := E2.out
  rcases hst : inB x.f1 1 65535 with _ | _
  · have HS := Lib.hid hst
    clear hst
    go_enter Try.func74, Try.ntmps74
    go_wp2_with (first | (go_at_call 111; refine (in_any _ _ _ _).mono ?_; rw [HS.out]; rintro e w' ⟨rfl, rfl⟩))
    go_ret
    refine ⟨?_, below2 _ _ _⟩
    try simp only [HS.out, Bool.false_and, Bool.false_and]
    try rfl
  · have HS := Lib.hid hst
    clear hst
    rcases ht : inB x.f2 0 8 with _ | _
    · have HT := Lib.hid ht
      clear ht
      go_enter Try.func74, Try.ntmps74
      go_wp2_with (first | (go_at_call 111; refine (in_any _ _ _ _).mono ?_; (first | rw [HS.out] | rw [HT.out]); rintro e w' ⟨rfl, rfl⟩))
      go_ret
      refine ⟨?_, below2 _ _ _⟩
      try simp only [HS.out, HT.out, Bool.true_and, Bool.false_and]
      try rfl
    · have HT := Lib.hid ht
      clear ht
      go_enter Try.func74, Try.ntmps74
      go_wp2_with (first | (go_at_call 111; refine (in_any _ _ _ _).mono ?_; (first | rw [HS.out] | rw [HT.out]); rintro e w' ⟨rfl, rfl⟩) | (go_at_call 113; refine (same_p x ⟨x.f0, x.f1, x.f2, 0, z50, []⟩ _ _ _ _ _ _ _ _ _ _ _ _ _ (HX _ _).out (HX' _ _).out (nilC _) (nilC _)).mono ?_; rintro e w' ⟨rfl, hb2⟩))
      go_ret
      refine ⟨?_, (below2 _ _ _).trans (hb2.mono (by simp; omega))⟩
      try simp only [HS.out, HT.out, Bool.true_and, Bool.true_and]
      try rfl
set_option maxHeartbeats 4000000 in
set_option maxRecDepth 100000 in
theorem may5 (x : S52) (A A' : Option Addr) (c c' : Nat) (w : World) (hx : kB.C w A x.f4.f1.length x.f4.f1) (hx' : kB.C w A' x.f5.length x.f5) (hs : x.f4.f2.size ≤ 9223372036854775807) (E1 : Hid ((x.f0 == 1) = false)) (E2 : Hid ((x.f0 == 2) = false)) (E3 : Hid ((x.f0 == 3) = false)) (E4 : Hid ((x.f0 == 4) = false)) (E5 : Hid ((x.f0 == 5) = true)) : Calls Try.prog 74 #[.agg #[.int .i64 x.f0, .int .i64 x.f1, .int .i64 x.f2, .int .i64 x.f3, .int .i64 x.f4.f0, .slice A x.f4.f1.length c, .string x.f4.f2, .int .i64 x.f4.f3, .slice A' x.f5.length c']] w fun e w' => e = .returned (.bool (((inB x.f1 1 65535) && (inB x.f2 0 255)) && sameP x ⟨x.f0, x.f1, x.f2, 0, z50, []⟩)) ∧ Below w.heap.size w w' := by
  have HX : ∀ o1 o2, Hid (kB.C ((w.alloc o1).alloc o2) A x.f4.f1.length x.f4.f1) := fun o1 o2 => Lib.hid (Kd.C_below hx (below2 w o1 o2))
  have HX' : ∀ o1 o2, Hid (kB.C ((w.alloc o1).alloc o2) A' x.f5.length x.f5) := fun o1 o2 => Lib.hid (Kd.C_below hx' (below2 w o1 o2))
  clear hx hx'
  have e1 := E1.out
  have e2 := E2.out
  have e3 := E3.out
  have e4 := E4.out
  have e5 := E5.out
  rcases hst : inB x.f1 1 65535 with _ | _
  · have HS := Lib.hid hst
    clear hst
    go_enter Try.func74, Try.ntmps74
    go_wp2_with (first | (go_at_call 111; refine (in_any _ _ _ _).mono ?_; rw [HS.out]; rintro e w' ⟨rfl, rfl⟩))
    go_ret
    refine ⟨?_, below2 _ _ _⟩
    try simp only [HS.out, Bool.false_and, Bool.false_and]
    try rfl
  · have HS := Lib.hid hst
    clear hst
    rcases ht : inB x.f2 0 255 with _ | _
    · have HT := Lib.hid ht
      clear ht
      go_enter Try.func74, Try.ntmps74
      go_wp2_with (first | (go_at_call 111; refine (in_any _ _ _ _).mono ?_; (first | rw [HS.out] | rw [HT.out]); rintro e w' ⟨rfl, rfl⟩))
      go_ret
      refine ⟨?_, below2 _ _ _⟩
      try simp only [HS.out, HT.out, Bool.true_and, Bool.false_and]
      try rfl
    · have HT := Lib.hid ht
      clear ht
      go_enter Try.func74, Try.ntmps74
      go_wp2_with (first | (go_at_call 111; refine (in_any _ _ _ _).mono ?_; (first | rw [HS.out] | rw [HT.out]); rintro e w' ⟨rfl, rfl⟩) | (go_at_call 113; refine (same_p x ⟨x.f0, x.f1, x.f2, 0, z50, []⟩ _ _ _ _ _ _ _ _ _ _ _ _ _ (HX _ _).out (HX' _ _).out (nilC _) (nilC _)).mono ?_; rintro e w' ⟨rfl, hb2⟩))
      go_ret
      refine ⟨?_, (below2 _ _ _).trans (hb2.mono (by simp; omega))⟩
      try simp only [HS.out, HT.out, Bool.true_and, Bool.true_and]
      try rfl
set_option maxHeartbeats 4000000 in
set_option maxRecDepth 100000 in
theorem may3 (x : S52) (A A' : Option Addr) (c c' : Nat) (w : World) (hx : kB.C w A x.f4.f1.length x.f4.f1) (hx' : kB.C w A' x.f5.length x.f5) (hs : x.f4.f2.size ≤ 9223372036854775807) (E1 : Hid ((x.f0 == 1) = false)) (E2 : Hid ((x.f0 == 2) = false)) (E3 : Hid ((x.f0 == 3) = true)) : Calls Try.prog 74 #[.agg #[.int .i64 x.f0, .int .i64 x.f1, .int .i64 x.f2, .int .i64 x.f3, .int .i64 x.f4.f0, .slice A x.f4.f1.length c, .string x.f4.f2, .int .i64 x.f4.f3, .slice A' x.f5.length c']] w fun e w' => e = .returned (.bool (((inB x.f1 1 65535) && (inB (x.f5.length : Int) 1 4000)) && sameP x ⟨x.f0, x.f1, 0, 0, z50, x.f5⟩)) ∧ Below w.heap.size w w' := by
  have HX : ∀ o1 o2, Hid (kB.C ((w.alloc o1).alloc o2) A x.f4.f1.length x.f4.f1) := fun o1 o2 => Lib.hid (Kd.C_below hx (below2 w o1 o2))
  have HX' : ∀ o1 o2, Hid (kB.C ((w.alloc o1).alloc o2) A' x.f5.length x.f5) := fun o1 o2 => Lib.hid (Kd.C_below hx' (below2 w o1 o2))
  clear hx hx'
  have e1 := E1.out
  have e2 := E2.out
  have e3 := E3.out
  rcases hst : inB x.f1 1 65535 with _ | _
  · have HS := Lib.hid hst
    clear hst
    go_enter Try.func74, Try.ntmps74
    go_wp2_with (first | (go_at_call 111; refine (in_any _ _ _ _).mono ?_; rw [HS.out]; rintro e w' ⟨rfl, rfl⟩))
    go_ret
    refine ⟨?_, below2 _ _ _⟩
    try simp only [HS.out, Bool.false_and, Bool.false_and]
    try rfl
  · have HS := Lib.hid hst
    clear hst
    rcases ht : inB (x.f5.length : Int) 1 4000 with _ | _
    · have HT := Lib.hid ht
      clear ht
      go_enter Try.func74, Try.ntmps74
      go_wp2_with (first | (go_at_call 111; refine (in_any _ _ _ _).mono ?_; (first | rw [HS.out] | rw [HT.out]); rintro e w' ⟨rfl, rfl⟩))
      go_ret
      refine ⟨?_, below2 _ _ _⟩
      try simp only [HS.out, HT.out, Bool.true_and, Bool.false_and]
      try rfl
    · have HT := Lib.hid ht
      clear ht
      go_enter Try.func74, Try.ntmps74
      go_wp2_with (first | (go_at_call 111; refine (in_any _ _ _ _).mono ?_; (first | rw [HS.out] | rw [HT.out]); rintro e w' ⟨rfl, rfl⟩) | (go_at_call 113; refine (same_p x ⟨x.f0, x.f1, 0, 0, z50, x.f5⟩ _ _ _ _ _ _ _ _ _ _ _ _ _ (HX _ _).out (HX' _ _).out (nilC _) (HX' _ _).out).mono ?_; rintro e w' ⟨rfl, hb2⟩))
      go_ret
      refine ⟨?_, (below2 _ _ _).trans (hb2.mono (by simp; omega))⟩
      try simp only [HS.out, HT.out, Bool.true_and, Bool.true_and]
      try rfl
set_option maxHeartbeats 4000000 in
set_option maxRecDepth 100000 in
theorem may6 (x : S52) (A A' : Option Addr) (c c' : Nat) (w : World) (hx : kB.C w A x.f4.f1.length x.f4.f1) (hx' : kB.C w A' x.f5.length x.f5) (hs : x.f4.f2.size ≤ 9223372036854775807) (E1 : Hid ((x.f0 == 1) = false)) (E2 : Hid ((x.f0 == 2) = false)) (E3 : Hid ((x.f0 == 3) = false)) (E4 : Hid ((x.f0 == 4) = false)) (E5 : Hid ((x.f0 == 5) = false)) (E6 : Hid ((x.f0 == 6) = true)) : Calls Try.prog 74 #[.agg #[.int .i64 x.f0, .int .i64 x.f1, .int .i64 x.f2, .int .i64 x.f3, .int .i64 x.f4.f0, .slice A x.f4.f1.length c, .string x.f4.f2, .int .i64 x.f4.f3, .slice A' x.f5.length c']] w fun e w' => e = .returned (.bool (((inB x.f1 1 65535) && (inB x.f3 1 65536)) && sameP x ⟨x.f0, x.f1, 0, x.f3, z50, []⟩)) ∧ Below w.heap.size w w' := by
  have HX : ∀ o1 o2, Hid (kB.C ((w.alloc o1).alloc o2) A x.f4.f1.length x.f4.f1) := fun o1 o2 => Lib.hid (Kd.C_below hx (below2 w o1 o2))
  have HX' : ∀ o1 o2, Hid (kB.C ((w.alloc o1).alloc o2) A' x.f5.length x.f5) := fun o1 o2 => Lib.hid (Kd.C_below hx' (below2 w o1 o2))
  clear hx hx'
  have e1 := E1.out
  have e2 := E2.out
  have e3 := E3.out
  have e4 := E4.out
  have e5 := E5.out
  have e6 := E6.out
  rcases hst : inB x.f1 1 65535 with _ | _
  · have HS := Lib.hid hst
    clear hst
    go_enter Try.func74, Try.ntmps74
    go_wp2_with (first | (go_at_call 111; refine (in_any _ _ _ _).mono ?_; rw [HS.out]; rintro e w' ⟨rfl, rfl⟩))
    go_ret
    refine ⟨?_, below2 _ _ _⟩
    try simp only [HS.out, Bool.false_and, Bool.false_and]
    try rfl
  · have HS := Lib.hid hst
    clear hst
    rcases ht : inB x.f3 1 65536 with _ | _
    · have HT := Lib.hid ht
      clear ht
      go_enter Try.func74, Try.ntmps74
      go_wp2_with (first | (go_at_call 111; refine (in_any _ _ _ _).mono ?_; (first | rw [HS.out] | rw [HT.out]); rintro e w' ⟨rfl, rfl⟩))
      go_ret
      refine ⟨?_, below2 _ _ _⟩
      try simp only [HS.out, HT.out, Bool.true_and, Bool.false_and]
      try rfl
    · have HT := Lib.hid ht
      clear ht
      go_enter Try.func74, Try.ntmps74
      go_wp2_with (first | (go_at_call 111; refine (in_any _ _ _ _).mono ?_; (first | rw [HS.out] | rw [HT.out]); rintro e w' ⟨rfl, rfl⟩) | (go_at_call 113; refine (same_p x ⟨x.f0, x.f1, 0, x.f3, z50, []⟩ _ _ _ _ _ _ _ _ _ _ _ _ _ (HX _ _).out (HX' _ _).out (nilC _) (nilC _)).mono ?_; rintro e w' ⟨rfl, hb2⟩))
      go_ret
      refine ⟨?_, (below2 _ _ _).trans (hb2.mono (by simp; omega))⟩
      try simp only [HS.out, HT.out, Bool.true_and, Bool.true_and]
      try rfl
set_option maxHeartbeats 4000000 in
set_option maxRecDepth 100000 in
theorem may7 (x : S52) (A A' : Option Addr) (c c' : Nat) (w : World) (hx : kB.C w A x.f4.f1.length x.f4.f1) (hx' : kB.C w A' x.f5.length x.f5) (hs : x.f4.f2.size ≤ 9223372036854775807) (E1 : Hid ((x.f0 == 1) = false)) (E2 : Hid ((x.f0 == 2) = false)) (E3 : Hid ((x.f0 == 3) = false)) (E4 : Hid ((x.f0 == 4) = false)) (E5 : Hid ((x.f0 == 5) = false)) (E6 : Hid ((x.f0 == 6) = false)) (E7 : Hid ((x.f0 == 7) = true)) : Calls Try.prog 74 #[.agg #[.int .i64 x.f0, .int .i64 x.f1, .int .i64 x.f2, .int .i64 x.f3, .int .i64 x.f4.f0, .slice A x.f4.f1.length c, .string x.f4.f2, .int .i64 x.f4.f3, .slice A' x.f5.length c']] w fun e w' => e = .returned (.bool (((x.f1 == 0) && (inB x.f3 0 4294967295)) && sameP x ⟨x.f0, x.f1, 0, x.f3, z50, []⟩)) ∧ Below w.heap.size w w' := by
  have HX : ∀ o1 o2, Hid (kB.C ((w.alloc o1).alloc o2) A x.f4.f1.length x.f4.f1) := fun o1 o2 => Lib.hid (Kd.C_below hx (below2 w o1 o2))
  have HX' : ∀ o1 o2, Hid (kB.C ((w.alloc o1).alloc o2) A' x.f5.length x.f5) := fun o1 o2 => Lib.hid (Kd.C_below hx' (below2 w o1 o2))
  clear hx hx'
  have e1 := E1.out
  have e2 := E2.out
  have e3 := E3.out
  have e4 := E4.out
  have e5 := E5.out
  have e6 := E6.out
  have e7 := E7.out
  rcases hst : inB x.f1 1 65535 with _ | _ <;> have HS := Lib.hid hst <;> clear hst
  all_goals
    rcases hz : (x.f1 == 0) with _ | _
    · have EZ := Lib.hid hz
      go_enter Try.func74, Try.ntmps74
      go_wp2_with (first | (go_at_call 111; refine (in_any _ _ _ _).mono ?_; rw [HS.out]; rintro e w' ⟨rfl, rfl⟩))
      go_ret
      refine ⟨?_, below2 _ _ _⟩
      try simp only [EZ.out, Bool.false_and, Bool.false_and]
      try rfl
    · have EZ := Lib.hid hz
      rcases ht : inB x.f3 0 4294967295 with _ | _
      · have HT := Lib.hid ht
        clear ht
        go_enter Try.func74, Try.ntmps74
        go_wp2_with (first | (go_at_call 111; refine (in_any _ _ _ _).mono ?_; (first | rw [HS.out] | rw [HT.out]); rintro e w' ⟨rfl, rfl⟩))
        go_ret
        refine ⟨?_, below2 _ _ _⟩
        try simp only [EZ.out, HT.out, Bool.true_and, Bool.false_and]
        try rfl
      · have HT := Lib.hid ht
        clear ht
        go_enter Try.func74, Try.ntmps74
        go_wp2_with (first | (go_at_call 111; refine (in_any _ _ _ _).mono ?_; (first | rw [HS.out] | rw [HT.out]); rintro e w' ⟨rfl, rfl⟩) | (go_at_call 113; refine (same_p x ⟨x.f0, x.f1, 0, x.f3, z50, []⟩ _ _ _ _ _ _ _ _ _ _ _ _ _ (HX _ _).out (HX' _ _).out (nilC _) (nilC _)).mono ?_; rintro e w' ⟨rfl, hb2⟩))
        go_ret
        refine ⟨?_, (below2 _ _ _).trans (hb2.mono (by simp; omega))⟩
        try simp only [EZ.out, HT.out, Bool.true_and, Bool.true_and]
        try rfl
set_option maxHeartbeats 4000000 in
set_option maxRecDepth 100000 in
theorem may8 (x : S52) (A A' : Option Addr) (c c' : Nat) (w : World) (hx : kB.C w A x.f4.f1.length x.f4.f1) (hx' : kB.C w A' x.f5.length x.f5) (hs : x.f4.f2.size ≤ 9223372036854775807) (E1 : Hid ((x.f0 == 1) = false)) (E2 : Hid ((x.f0 == 2) = false)) (E3 : Hid ((x.f0 == 3) = false)) (E4 : Hid ((x.f0 == 4) = false)) (E5 : Hid ((x.f0 == 5) = false)) (E6 : Hid ((x.f0 == 6) = false)) (E7 : Hid ((x.f0 == 7) = false)) (E8 : Hid ((x.f0 == 8) = true)) : Calls Try.prog 74 #[.agg #[.int .i64 x.f0, .int .i64 x.f1, .int .i64 x.f2, .int .i64 x.f3, .int .i64 x.f4.f0, .slice A x.f4.f1.length c, .string x.f4.f2, .int .i64 x.f4.f3, .slice A' x.f5.length c']] w fun e w' => e = .returned (.bool (((x.f1 == 0) && (inB x.f3 0 4294967295)) && sameP x ⟨x.f0, x.f1, 0, x.f3, z50, []⟩)) ∧ Below w.heap.size w w' := by
  have HX : ∀ o1 o2, Hid (kB.C ((w.alloc o1).alloc o2) A x.f4.f1.length x.f4.f1) := fun o1 o2 => Lib.hid (Kd.C_below hx (below2 w o1 o2))
  have HX' : ∀ o1 o2, Hid (kB.C ((w.alloc o1).alloc o2) A' x.f5.length x.f5) := fun o1 o2 => Lib.hid (Kd.C_below hx' (below2 w o1 o2))
  clear hx hx'
  have e1 := E1.out
  have e2 := E2.out
  have e3 := E3.out
  have e4 := E4.out
  have e5 := E5.out
  have e6 := E6.out
  have e7 := E7.out
  have e8 := E8.out
  rcases hst : inB x.f1 1 65535 with _ | _ <;> have HS := Lib.hid hst <;> clear hst
  all_goals
    rcases hz : (x.f1 == 0) with _ | _
    · have EZ := Lib.hid hz
      go_enter Try.func74, Try.ntmps74
      go_wp2_with (first | (go_at_call 111; refine (in_any _ _ _ _).mono ?_; rw [HS.out]; rintro e w' ⟨rfl, rfl⟩))
      go_ret
      refine ⟨?_, below2 _ _ _⟩
      try simp only [EZ.out, Bool.false_and, Bool.false_and]
      try rfl
    · have EZ := Lib.hid hz
      rcases ht : inB x.f3 0 4294967295 with _ | _
      · have HT := Lib.hid ht
        clear ht
        go_enter Try.func74, Try.ntmps74
        go_wp2_with (first | (go_at_call 111; refine (in_any _ _ _ _).mono ?_; (first | rw [HS.out] | rw [HT.out]); rintro e w' ⟨rfl, rfl⟩))
        go_ret
        refine ⟨?_, below2 _ _ _⟩
        try simp only [EZ.out, HT.out, Bool.true_and, Bool.false_and]
        try rfl
      · have HT := Lib.hid ht
        clear ht
        go_enter Try.func74, Try.ntmps74
        go_wp2_with (first | (go_at_call 111; refine (in_any _ _ _ _).mono ?_; (first | rw [HS.out] | rw [HT.out]); rintro e w' ⟨rfl, rfl⟩) | (go_at_call 113; refine (same_p x ⟨x.f0, x.f1, 0, x.f3, z50, []⟩ _ _ _ _ _ _ _ _ _ _ _ _ _ (HX _ _).out (HX' _ _).out (nilC _) (nilC _)).mono ?_; rintro e w' ⟨rfl, hb2⟩))
        go_ret
        refine ⟨?_, (below2 _ _ _).trans (hb2.mono (by simp; omega))⟩
        try simp only [EZ.out, HT.out, Bool.true_and, Bool.true_and]
        try rfl
set_option maxHeartbeats 4000000 in
set_option maxRecDepth 100000 in
theorem may4 (x : S52) (A A' : Option Addr) (c c' : Nat) (w : World) (hx : kB.C w A x.f4.f1.length x.f4.f1) (hx' : kB.C w A' x.f5.length x.f5) (hs : x.f4.f2.size ≤ 9223372036854775807) (E1 : Hid ((x.f0 == 1) = false)) (E2 : Hid ((x.f0 == 2) = false)) (E3 : Hid ((x.f0 == 3) = false)) (E4 : Hid ((x.f0 == 4) = true)) : Calls Try.prog 74 #[.agg #[.int .i64 x.f0, .int .i64 x.f1, .int .i64 x.f2, .int .i64 x.f3, .int .i64 x.f4.f0, .slice A x.f4.f1.length c, .string x.f4.f2, .int .i64 x.f4.f3, .slice A' x.f5.length c']] w fun e w' => e = .returned (.bool (((inB x.f1 1 65535) && (true)) && sameP x ⟨x.f0, x.f1, 0, 0, z50, []⟩)) ∧ Below w.heap.size w w' := by
  have HX : ∀ o1 o2, Hid (kB.C ((w.alloc o1).alloc o2) A x.f4.f1.length x.f4.f1) := fun o1 o2 => Lib.hid (Kd.C_below hx (below2 w o1 o2))
  have HX' : ∀ o1 o2, Hid (kB.C ((w.alloc o1).alloc o2) A' x.f5.length x.f5) := fun o1 o2 => Lib.hid (Kd.C_below hx' (below2 w o1 o2))
  clear hx hx'
  have e1 := E1.out
  have e2 := E2.out
  have e3 := E3.out
  have e4 := E4.out
  rcases hst : inB x.f1 1 65535 with _ | _
  · have HS := Lib.hid hst
    clear hst
    go_enter Try.func74, Try.ntmps74
    go_wp2_with (first | (go_at_call 111; refine (in_any _ _ _ _).mono ?_; rw [HS.out]; rintro e w' ⟨rfl, rfl⟩))
    go_ret
    refine ⟨?_, below2 _ _ _⟩
    try simp only [HS.out, Bool.false_and, Bool.false_and]
    try rfl
  · have HS := Lib.hid hst
    clear hst
    go_enter Try.func74, Try.ntmps74
    go_wp2_with (first | (go_at_call 111; refine (in_any _ _ _ _).mono ?_; rw [HS.out]; rintro e w' ⟨rfl, rfl⟩) | (go_at_call 113; refine (same_p x ⟨x.f0, x.f1, 0, 0, z50, []⟩ _ _ _ _ _ _ _ _ _ _ _ _ _ (HX _ _).out (HX' _ _).out (nilC _) (nilC _)).mono ?_; rintro e w' ⟨rfl, hb2⟩))
    go_ret
    refine ⟨?_, (below2 _ _ _).trans (hb2.mono (by simp; omega))⟩
    try simp only [HS.out, Bool.true_and, Bool.true_and]
    try rfl
set_option maxHeartbeats 4000000 in
set_option maxRecDepth 100000 in
theorem may9 (x : S52) (A A' : Option Addr) (c c' : Nat) (w : World) (hx : kB.C w A x.f4.f1.length x.f4.f1) (hx' : kB.C w A' x.f5.length x.f5) (hs : x.f4.f2.size ≤ 9223372036854775807) (E1 : Hid ((x.f0 == 1) = false)) (E2 : Hid ((x.f0 == 2) = false)) (E3 : Hid ((x.f0 == 3) = false)) (E4 : Hid ((x.f0 == 4) = false)) (E5 : Hid ((x.f0 == 5) = false)) (E6 : Hid ((x.f0 == 6) = false)) (E7 : Hid ((x.f0 == 7) = false)) (E8 : Hid ((x.f0 == 8) = false)) : Calls Try.prog 74 #[.agg #[.int .i64 x.f0, .int .i64 x.f1, .int .i64 x.f2, .int .i64 x.f3, .int .i64 x.f4.f0, .slice A x.f4.f1.length c, .string x.f4.f2, .int .i64 x.f4.f3, .slice A' x.f5.length c']] w fun e w' => e = .returned (.bool false) ∧ Below w.heap.size w w' := by
  have HX : ∀ o1 o2, Hid (kB.C ((w.alloc o1).alloc o2) A x.f4.f1.length x.f4.f1) := fun o1 o2 => Lib.hid (Kd.C_below hx (below2 w o1 o2))
  have HX' : ∀ o1 o2, Hid (kB.C ((w.alloc o1).alloc o2) A' x.f5.length x.f5) := fun o1 o2 => Lib.hid (Kd.C_below hx' (below2 w o1 o2))
  clear hx hx'
  have e1 := E1.out
  have e2 := E2.out
  have e3 := E3.out
  have e4 := E4.out
  have e5 := E5.out
  have e6 := E6.out
  have e7 := E7.out
  have e8 := E8.out
  rcases hst : inB x.f1 1 65535 with _ | _ <;> have HS := Lib.hid hst <;> clear hst
  all_goals
    go_enter Try.func74, Try.ntmps74
    go_wp2_with (first | (go_at_call 111; refine (in_any _ _ _ _).mono ?_; rw [HS.out]; rintro e w' ⟨rfl, rfl⟩))
    go_ret
    exact ⟨rfl, below2 _ _ _⟩
theorem mayFrame_p (x : S52) (A A' : Option Addr) (c c' : Nat) (w : World) (hx : kB.C w A x.f4.f1.length x.f4.f1) (hx' : kB.C w A' x.f5.length x.f5) (hs : x.f4.f2.size ≤ 9223372036854775807) : Calls Try.prog 74 #[.agg #[.int .i64 x.f0, .int .i64 x.f1, .int .i64 x.f2, .int .i64 x.f3, .int .i64 x.f4.f0, .slice A x.f4.f1.length c, .string x.f4.f2, .int .i64 x.f4.f3, .slice A' x.f5.length c']] w fun e w' => e = .returned (.bool (frameB x)) ∧ Below w.heap.size w w' := by
  by_cases k1 : x.f0 = 1
  · rw [frameB_1 k1]; exact may1 x A A' c c' w hx hx' hs  (Lib.hid (beq_iff_eq.mpr k1))
  by_cases k2 : x.f0 = 2
  · rw [frameB_2 k2]; exact may2 x A A' c c' w hx hx' hs (Lib.hid (beq_eq_false_iff_ne.mpr k1)) (Lib.hid (beq_iff_eq.mpr k2))
  by_cases k3 : x.f0 = 3
  · rw [frameB_3 k3]; exact may3 x A A' c c' w hx hx' hs (Lib.hid (beq_eq_false_iff_ne.mpr k1)) (Lib.hid (beq_eq_false_iff_ne.mpr k2)) (Lib.hid (beq_iff_eq.mpr k3))
  by_cases k4 : x.f0 = 4
  · rw [frameB_4 k4]; exact may4 x A A' c c' w hx hx' hs (Lib.hid (beq_eq_false_iff_ne.mpr k1)) (Lib.hid (beq_eq_false_iff_ne.mpr k2)) (Lib.hid (beq_eq_false_iff_ne.mpr k3)) (Lib.hid (beq_iff_eq.mpr k4))
  by_cases k5 : x.f0 = 5
  · rw [frameB_5 k5]; exact may5 x A A' c c' w hx hx' hs (Lib.hid (beq_eq_false_iff_ne.mpr k1)) (Lib.hid (beq_eq_false_iff_ne.mpr k2)) (Lib.hid (beq_eq_false_iff_ne.mpr k3)) (Lib.hid (beq_eq_false_iff_ne.mpr k4)) (Lib.hid (beq_iff_eq.mpr k5))
  by_cases k6 : x.f0 = 6
  · rw [frameB_6 k6]; exact may6 x A A' c c' w hx hx' hs (Lib.hid (beq_eq_false_iff_ne.mpr k1)) (Lib.hid (beq_eq_false_iff_ne.mpr k2)) (Lib.hid (beq_eq_false_iff_ne.mpr k3)) (Lib.hid (beq_eq_false_iff_ne.mpr k4)) (Lib.hid (beq_eq_false_iff_ne.mpr k5)) (Lib.hid (beq_iff_eq.mpr k6))
  by_cases k7 : x.f0 = 7
  · rw [frameB_7 k7]; exact may7 x A A' c c' w hx hx' hs (Lib.hid (beq_eq_false_iff_ne.mpr k1)) (Lib.hid (beq_eq_false_iff_ne.mpr k2)) (Lib.hid (beq_eq_false_iff_ne.mpr k3)) (Lib.hid (beq_eq_false_iff_ne.mpr k4)) (Lib.hid (beq_eq_false_iff_ne.mpr k5)) (Lib.hid (beq_eq_false_iff_ne.mpr k6)) (Lib.hid (beq_iff_eq.mpr k7))
  by_cases k8 : x.f0 = 8
  · rw [frameB_8 k8]; exact may8 x A A' c c' w hx hx' hs (Lib.hid (beq_eq_false_iff_ne.mpr k1)) (Lib.hid (beq_eq_false_iff_ne.mpr k2)) (Lib.hid (beq_eq_false_iff_ne.mpr k3)) (Lib.hid (beq_eq_false_iff_ne.mpr k4)) (Lib.hid (beq_eq_false_iff_ne.mpr k5)) (Lib.hid (beq_eq_false_iff_ne.mpr k6)) (Lib.hid (beq_eq_false_iff_ne.mpr k7)) (Lib.hid (beq_iff_eq.mpr k8))
  rw [frameB_no k1 k2 k3 k4 k5 k6 k7 k8]; exact may9 x A A' c c' w hx hx' hs (Lib.hid (beq_eq_false_iff_ne.mpr k1)) (Lib.hid (beq_eq_false_iff_ne.mpr k2)) (Lib.hid (beq_eq_false_iff_ne.mpr k3)) (Lib.hid (beq_eq_false_iff_ne.mpr k4)) (Lib.hid (beq_eq_false_iff_ne.mpr k5)) (Lib.hid (beq_eq_false_iff_ne.mpr k6)) (Lib.hid (beq_eq_false_iff_ne.mpr k7)) (Lib.hid (beq_eq_false_iff_ne.mpr k8))
end Go.Proofs.Ytcdhgpodoigddaa
