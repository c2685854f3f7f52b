/-
  The law's own small functions: small, awake.
-/
import Derived.Test.YtcdhgpodoigddaaN4
import Derived.Test.YtcdhgpodoigddaaS4
import Derived.Lib.SlBytesConst
namespace Go.Proofs.Ytcdhgpodoigddaa
open Go.RowKit Go.Proofs.YtcdhgpodoigddaaW.PrintWords Go.Proofs.YtcdhgpodoigddaaW.PrintLast Go.Proofs.YtcdhgpodoigddaaW.PrintMore
set_option linter.unusedVariables false
set_option linter.unusedSimpArgs false
attribute [local go_sem] max2_max min2_min max_two min_two
def sumB (x : S54) : Bool := decide (wrap64 ((x.f3.f4.f1.length : Int) + (x.f3.f4.f2.size : Int)) ≤ 200)
def smallB (x : S54) : Bool := decide ((x.f2.length : Int) ≤ 3000) && (decide ((x.f3.f5.length : Int) ≤ 5000) && sumB x)
set_option maxHeartbeats 2000000 in
theorem small_any (x : S54) (A0 A1 A2 : Option Addr) (c0 c1 c2 : Nat) (w : World) :
    Calls Try.prog 27 #[.agg #[.int .i64 x.f0, .int .i64 x.f1, .slice A0 x.f2.length c0, .int .i64 x.f3.f0, .int .i64 x.f3.f1, .int .i64 x.f3.f2, .int .i64 x.f3.f3, .int .i64 x.f3.f4.f0, .slice A1 x.f3.f4.f1.length c1, .string x.f3.f4.f2, .int .i64 x.f3.f4.f3, .slice A2 x.f3.f5.length c2]] w fun e w' => e = .returned (.bool (smallB x)) ∧ Below w.heap.size w w' := by
  have hB : ∀ o, Below w.heap.size w (w.alloc o) := fun o => (Below.refl _ w).alloc (Nat.le_refl _) o
  by_cases h1 : (x.f2.length : Int) ≤ 3000
  · by_cases h2 : (x.f3.f5.length : Int) ≤ 5000
    · obtain ⟨z, hz⟩ : ∃ z : Int, wrap64 ((x.f3.f4.f1.length : Int) + (x.f3.f4.f2.size : Int)) = z := ⟨_, rfl⟩
      have HR : Hid (smallB x = decide (z ≤ 200)) := Lib.hid (by unfold smallB sumB; rw [decide_eq_true h1, decide_eq_true h2, hz]; rfl)
      go_enter Try.func27, Try.ntmps27
      go_wp2_with fail
      go_ret
      exact ⟨by rw [HR.out]; rfl, hB _⟩
    · have HR : Hid (smallB x = false) := Lib.hid (by unfold smallB; rw [decide_eq_false h2, Bool.false_and, Bool.and_false])
      go_enter Try.func27, Try.ntmps27
      go_wp2_with fail
      go_ret
      exact ⟨by rw [HR.out]; rfl, hB _⟩
  · have HR : Hid (smallB x = false) := Lib.hid (by unfold smallB; rw [decide_eq_false h1, Bool.false_and])
    go_enter Try.func27, Try.ntmps27
    go_wp2_with fail
    go_ret
    exact ⟨by rw [HR.out]; rfl, hB _⟩
theorem awake_send : (St.new 7 3).send [97, 98, 99, 100, 101] = ⟨7, 3, 3, [97, 98, 99, 100, 101], false, false, false, false⟩ := by
  unfold St.send St.sendOk St.shut St.new
  simp
theorem awake_pieces : pieces 7 3 [97, 98, 99, 100, 101] = ([dataD 7 [97, 98, 99]], 0, [100, 101]) := by
  have h1 : pieceN 3 [97, 98, 99, 100, 101] = 3 := by decide
  have h2 : pieceN 0 [100, 101] = 0 := by decide
  rw [pieces_go 7 (by rw [h1]; decide), h1]
  show (dataD 7 [97, 98, 99] :: (pieces 7 0 [100, 101]).1, (pieces 7 0 [100, 101]).2) = _
  rw [pieces_stop 7 h2]
theorem awake_next : ((St.new 7 3).send [97, 98, 99, 100, 101]).next = ([dataD 7 [97, 98, 99]], ⟨7, 0, 3, [100, 101], false, false, false, false⟩) := by
  rw [awake_send]
  exact next_no rfl awake_pieces rfl
theorem awake_ok : (St.new 7 3).sendOk 5 = true := by decide
theorem str_abc : strOfNums [97, 98, 99] = ⟨#[97, 98, 99]⟩ := by rfl
abbrev fiveO (fr : Nat × Nat) : Obj := .cells #[.int .u8 97, .int .u8 98, .int .u8 99, .int .u8 100, .int .u8 101] 5 fr
theorem C_five (w : World) (fr : Nat × Nat) : kB.C (w.alloc (fiveO fr)) (some ⟨w.heap.size, 0, none⟩) 5 [97, 98, 99, 100, 101] := by
  have hb : (w.alloc (fiveO fr)).heap[w.heap.size]? = some (fiveO fr) := heap_alloc_new w _
  have hc : ∀ i u, (#[Value.int .u8 97, .int .u8 98, .int .u8 99, .int .u8 100, .int .u8 101] : Array Value)[i]? = some u → (w.alloc (fiveO fr)).cell? ⟨w.heap.size, i, none⟩ = some u := by
    intro i u hu
    simp only [World.cell?, hb]
    exact hu
  refine ⟨rfl, by omega, fun _ => ⟨_, rfl, fun j p hj => ⟨[.int .u8 p], rfl, rfl, fun i u hu => ?_⟩⟩⟩
  have hi : i = 0 := by
    rcases i with _ | i
    · rfl
    · simp at hu
  subst hi
  simp at hu
  subst hu
  rw [add_plain]
  refine hc _ _ ?_
  match j, hj with
  | 0, hj => simp at hj; subst hj; rfl
  | 1, hj => simp at hj; subst hj; rfl
  | 2, hj => simp at hj; subst hj; rfl
  | 3, hj => simp at hj; subst hj; rfl
  | 4, hj => simp at hj; subst hj; rfl
def s5 : St := ⟨7, 3, 3, [97, 98, 99, 100, 101], false, false, false, false⟩
def s6 : St := ⟨7, 0, 3, [100, 101], false, false, false, false⟩
theorem send_five {ok : Nat → Prop} {g c : Nat} {A : Option Addr} {w : World} (h : IsStr w ok g (St.new 7 3)) (hC : kB.C w A 5 [97, 98, 99, 100, 101]) :
    Calls Try.prog 28 #[.pointer (some ⟨g, 0, none⟩), .slice A 5 c] w fun e w' => e = .returned (.bool true) ∧ IsStr w' (fun k => ok k ∨ w.heap.size ≤ k) g s5 ∧ Mod ok w w' :=
  (send_p g _ A 5 c [97, 98, 99, 100, 101] w h hC).mono (fun e w' q => ⟨q.1, by have := q.2.1; rw [awake_send] at this; exact this, q.2.2⟩)
theorem next_five {ok : Nat → Prop} {g : Nat} {w : World} (h : IsStr w ok g s5) :
    Calls Try.prog 36 #[.pointer (some ⟨g, 0, none⟩)] w fun e w' => ∃ ad A8 c8 d, e = .returned (.slice (some ad) 1 d) ∧ w'.cell? ad = some (.int .i64 3) ∧ w'.cell? ⟨ad.block, ad.off + 8, none⟩ = some (.slice A8 3 c8) ∧ kB.C w' A8 3 [97, 98, 99] ∧ IsStr w' (fun k => ok k ∨ w.heap.size ≤ k) g s6 ∧ Mod ok w w' :=
  (next_p g s5 w h ⟨by decide, by decide, by decide⟩).mono (fun e w' ⟨B, m, d, he, hV, hI, hM⟩ => by
    have hn : s5.next = ([dataD 7 [97, 98, 99]], s6) := by have := awake_next; rw [awake_send] at this; exact this
    rw [hn] at hV hI
    obtain ⟨rfl, _, hC⟩ := Kd.V_reads' hV
    obtain ⟨ad, A5, c5, A8, c8, rfl, k0, k1, k2, k3, k4, k5, k6, k7, k8, l5, g5, l8, g8⟩ := at_T52 hC 0 (by decide) (by decide)
    have h0 : ad.add ((0 : Int).toNat * 9) = ad := by cases ad; simp [Addr.add]
    rw [h0] at k0 k8
    exact ⟨ad, A8, c8, d, he, k0, k8, g8, hI, hM⟩)
set_option maxHeartbeats 2000000 in
set_option maxRecDepth 100000 in
theorem awake_any (w : World) : Calls Try.prog 26 #[] w fun e w' => e = .returned (.bool true) ∧ Below w.heap.size w w' := by
  have hcv := fun w1 : World => Lib.run_convert_bytes_const (P := Try.prog) w1 31 5 #[.int .u8 97, .int .u8 98, .int .u8 99, .int .u8 100, .int .u8 101] 5 5 Try.underlying31 Try.underlying5
  have hsl : (strOfNums [97, 98, 99]).toList = [97, 98, 99] := by first | decide | simp [strOfNums]
  go_enter Try.func26, Try.ntmps26
  go_wp2_with (first
    | (go_at_call 24; refine (new_yes_p 7 3 _ (by unfold StOk; decide)).mono ?_; rintro e w1 ⟨g, rfl, hI, hb1⟩; have HI := Lib.hid hI; clear hI)
    | (go_at_call 28; refine (send_five (isStr_below HI.out ((Below.refl _ _).alloc (Nat.le_refl _) _)) (C_five _ _)).mono ?_; rintro e w2 ⟨rfl, hI2, hm2⟩; have HI2 := Lib.hid hI2; clear hI2)
    | (go_at_call 36; refine (next_five HI2.out).mono ?_; rintro e w3 ⟨ad, A8, c8, d, rfl, k0, k8, hC, hI3, hm3⟩; have HI3 := Lib.hid hI3; have hstr := string_B (c := c8) hC; clear hC hI3)
    | (go_at_call 42; refine (waits_p _ s6 _ HI3.out).mono ?_; rw [show ((s6.wait.length : Nat) : Int) = 2 from rfl]; rintro e w' ⟨rfl, rfl⟩)
    | (go_at_call 43; refine (id_p _ s6 _ HI3.out).mono ?_; rw [show s6.id = 7 from rfl]; rintro e w' ⟨rfl, rfl⟩))
  go_ret
  have q1 := hb1.size
  have hb2 : Below w.heap.size _ w2 := hm2.below (fun k hk => hk) (by simp; omega)
  have q2 := hb2.size
  have hb3 : Below w.heap.size _ w3 := hm3.below (fun k hk => hk.elim id (fun h => by simp at h; omega)) (by simp at q2; omega)
  exact ⟨rfl, ((hb1.alloc q1 _).trans hb2).trans hb3⟩
end Go.Proofs.Ytcdhgpodoigddaa
