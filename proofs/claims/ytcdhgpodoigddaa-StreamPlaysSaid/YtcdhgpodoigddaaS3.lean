/-
  Send on a stream; join.
-/
import Derived.Test.YtcdhgpodoigddaaA
import Derived.Test.YtcdhgpodoigddaaS2
namespace Go.Proofs.Ytcdhgpodoigddaa
open Go.RowKit Go.Proofs.YtcdhgpodoigddaaW.PrintWords Go.Proofs.YtcdhgpodoigddaaW.PrintLast Go.Proofs.YtcdhgpodoigddaaW.PrintMore
set_option linter.unusedVariables false
attribute [local go_sem] max2_max min2_min max_two min_two

def St.sendOk (s : St) (n : Nat) : Bool := !s.shut && decide ((n : Int) ≤ 65536 - s.wait.length)
def St.send (s : St) (b : List Int) : St := if s.sendOk b.length then { s with wait := s.wait ++ b } else s
theorem send_p {ok : Nat → Prop} (g : Nat) (s : St) (A : Option Addr) (n c : Nat) (b : List Int) (w : World) (h : IsStr w ok g s) (hC : kB.C w A n b) :
    Calls Try.prog 28 #[.pointer (some ⟨g, 0, none⟩), .slice A n c] w fun e w' => e = .returned (.bool (s.sendOk b.length)) ∧ IsStr w' (fun k => ok k ∨ w.heap.size ≤ k) g (s.send b) ∧ Mod ok w w' := by
  have h0 := h
  have hn : b.length = n := hC.1
  have hbig : n ≤ 9223372036854775807 := hC.2.1
  obtain ⟨gm, v, hb, hm, hq, okg, okm⟩ := h
  have hwl := q_max (Q_inner hq)
  have HI := Lib.hid h0
  have HI2 := Lib.hid (isStr_mono (ok' := fun k => ok k ∨ w.heap.size ≤ k) h0 (fun k hk => .inl hk))
  unfold St.send
  rw [hn]
  by_cases hs : s.shut = true
  · have HS := Lib.hid hs
    have HO : Hid (s.sendOk n = false) := Lib.hid (by simp [St.sendOk, hs])
    clear h0 hs hb hm hq hC hn hwl
    rw [HO.out]
    go_enter Try.func28, Try.ntmps28
    go_wp2_with (go_at_call 86; refine (closed_p (ok := ok) _ s _ HI.out).mono ?_; rw [HS.out]; rintro e w' ⟨rfl, rfl⟩)
    go_ret
    exact ⟨rfl, HI2.out, Mod.refl _ _⟩
  · have hs' : s.shut = false := by simpa using hs
    have HS := Lib.hid hs'
    obtain ⟨A1, c1, rfl, hc1⟩ := Kd.Q_slice hq
    obtain ⟨c0, c1', c2, c3, c4, c5, c6, c7⟩ := blk8 hb
    clear c0 c1' c2 c4 c5 c6 c7
    by_cases hl : (n : Int) ≤ 65536 - (s.wait.length : Int)
    · have HO : Hid (s.sendOk n = true) := Lib.hid (by simp [St.sendOk, hs', hl])
      have hne : some g ≠ (Value.slice A1 s.wait.length c1).ownBlock := Kd.Q_ne hq hb (by decide)
      have hnem : some gm ≠ (Value.slice A1 s.wait.length c1).ownBlock := Kd.Q_ne hq hm (by decide)
      have HB := Lib.hid hb
      have HM := Lib.hid hm
      have HQ := Lib.hid hq
      have HC := Lib.hid hC
      have HN := Lib.hid hn
      clear h0 hs hs' hb hm hq hC hn
      rw [HO.out]
      go_enter Try.func28, Try.ntmps28
      go_wp2_with (first | (go_at_call 86; refine (closed_p (ok := ok) _ s _ HI.out).mono ?_; rw [HS.out]; rintro e w' ⟨rfl, rfl⟩) | (at_builtin; refine wp_appB HQ.out HC.out (by omega) rfl (.tmp 22) (.tmp 23) rfl rfl rfl ?_; intro v1 w1 hq1 hg1 hat1; obtain ⟨A2, c2, rfl, _⟩ := Kd.Q_slice hq1; have hb1 := blk_grown HB.out hg1 hne; have hf1 := blk_frozen hb1 3; have hd1 := (blk8 hb1).2.2.2.1))
      go_ret
      rw [← List.length_append]
      refine ⟨rfl, isStr_set2 (s' := { s with wait := s.wait ++ b }) (l := 0) hb1 (blk_grown HM.out hg1 hnem) (.inl okg) (.inl okm) 3 _ (q_far hq1 hb1 (by decide) _ _) (by simp), ?_⟩
      exact ((Mod.refl ok w).grown hg1 (fun k hk => .inl (HQ.out.1 k hk))).setCell (.inl okg) _
    · have HO : Hid (s.sendOk n = false) := Lib.hid (by simp [St.sendOk, hs', hl])
      clear h0 hs hs' hb hm hq hC hn
      rw [HO.out]
      go_enter Try.func28, Try.ntmps28
      go_wp2_with (go_at_call 86; refine (closed_p (ok := ok) _ s _ HI.out).mono ?_; rw [HS.out]; rintro e w' ⟨rfl, rfl⟩)
      go_ret
      exact ⟨rfl, HI2.out, Mod.refl _ _⟩

/-! ### the reference's join -/
theorem flat_take (xss : List (List Int)) (k : Nat) (h : k < xss.length) : (xss.take (k + 1)).flatten = (xss.take k).flatten ++ rd_L4 xss k := by
  rw [List.take_succ_eq_append_getElem h, List.flatten_append]
  simp [rd_L4, List.getD_eq_getElem?_getD, List.getElem?_eq_getElem h]
theorem flat_len (xss : List (List Int)) (k : Nat) : (xss.take k).flatten.length ≤ xss.flatten.length := by
  conv => rhs; rw [← List.take_append_drop k xss, List.flatten_append, List.length_append]
  omega
set_option maxHeartbeats 400000 in
theorem join_any (A : Option Addr) (n c : Nat) (xss : List (List Int)) (w : World) (hC : Kd.C (Kd.slice 5 kB) w A n xss) (hl : xss.flatten.length ≤ 140737488355328) :
    Calls Try.prog 118 #[.slice A n c] w fun e w' => ∃ v, e = .returned v ∧ kB.Q 5 w' 0 (fun k => w.heap.size ≤ k) v xss.flatten ∧ Below w.heap.size w w' := by
  have hn : xss.length = n := hC.1
  have hbig : n ≤ 9223372036854775807 := hC.2.1
  have HN := Lib.hid hn
  have HC := Lib.hid hC
  clear hn hC
  go_enter Try.func118, Try.ntmps118
  go_wp2
  go_loopw [3, 8] (fun v i wr => ∃ k : Nat, k ≤ n ∧ i = .int .i64 k ∧ kB.Q 5 wr 0 (fun j => w.heap.size ≤ j) v (xss.take k).flatten ∧ Below w.heap.size w wr) (fun _ i _ => n - (intOf i).toNat)
  case atStart => exact ⟨0, Nat.zero_le _, rfl, Kd.Q_of_R (Kd.R_nil _ _ _ _ _), Below.refl _ _⟩
  case round =>
    obtain ⟨k, hk, rfl, hq, hb⟩ := hrel
    by_cases hlt : k < n
    · obtain ⟨ad, A0, c0, rfl, hcell, hc0, hC0⟩ := at_L4 HC.out k (by omega) (by omega)
      have hcell1 := (hb.cell (World.block_lt_of_cell? w _ hcell)).trans hcell
      have HC0 := Lib.hid (Kd.C_below hC0 ⟨hb.os, hb.tape, hb.output, hb.size, hb.block⟩)
      have hbl := flat_take xss k (by have := HN.out; omega)
      have hlen := flat_len xss (k + 1)
      rw [hbl, List.length_append] at hlen
      have HBL := Lib.hid hbl
      have hk0 : (0 : Int) ≤ (k : Int) := by omega
      simp only [Int.toNat_natCast] at hcell1
      clear hcell hbl hC0
      go_wp2_with (at_builtin; refine wp_appB hq HC0.out (by omega) rfl (.tmp 12) (.tmp 13) rfl rfl rfl ?_; intro v1 w1 hq1 hg1 hat1)
      go_roundw
      case rel =>
        refine ⟨k + 1, by omega, by go_num, ?_, ?_⟩
        · rw [HBL.out]; exact Kd.Q_mono hq1 (fun j hj => by have := hb.size; omega)
        · exact hb.grown hg1 hb.size (fun j hj => hq.1 j hj)
      case measure => simp [intOf]; omega
    · obtain rfl : k = n := by omega
      have hT : Hid ((xss.take k).flatten = xss.flatten) := Lib.hid (by rw [List.take_of_length_le (by rw [HN.out]; exact Nat.le_refl _)])
      go_wp2
      go_ret
      exact ⟨_, rfl, hT.out ▸ hq, hb⟩
end Go.Proofs.Ytcdhgpodoigddaa
