/-
  A message is sought in a row of messages: slices.IndexFunc and slices.ContainsFunc at them, walked.
-/
import Derived.Test.YtcdhgpodoigddaaP2
import Derived.Deep.MidRow
import Derived.Deep.LoopGhost
import Derived.Lib.SlBy
import Derived.OwnWalk
import Derived.Shelf.Abstract
namespace Go.Proofs.Ytcdhgpodoigddaa
open Go.RowKit Go.Proofs.YtcdhgpodoigddaaW.PrintWords Go.Lib
set_option linter.unusedVariables false
theorem size124 : (Try.prog.info? 124).map (·.size) = some 33 := by kernel_rfl
theorem msg_at {w : World} {A : Option Addr} {n : Nat} {zs : List Msg} (h : kMsg.C w A n zs) (j : Nat) (hj : j < n) : ∃ ad, A = some ad ∧ ∀ i u, (encM (zs.getD j default))[i]? = some u → w.cell? (ad.add (j * 33 + i)) = some u := by
  obtain ⟨ad, c, he, _, hK, hc⟩ := Kd.C_get h default (j : Int) (by omega) (by omega)
  have hK' : c = encM (zs.getD j default) := hK
  subst hK'
  exact ⟨ad, he, fun i u hu => hc i u hu⟩
theorem ent117 : Enters Try.prog 117 := enters_of Try.func117 (by kernel_rfl) rfl
/-- What a function value says of messages, whatever lies in new blocks. -/
def PredB (g : Nat) (lb : Array Value) (p : Msg → Bool) (S : Nat → Prop) (w : World) : Prop :=
  ∀ (W : World) (x : Msg), Mod S w W → Calls Try.prog g (#[.agg (encM x).toArray] ++ lb) W fun e w' => e = .returned (.bool (p x)) ∧ Below W.heap.size W w'
theorem getD_bang (zs : List Msg) (j : Nat) : zs.getD j default = zs[j]! := by simp [List.getD_eq_getElem?_getD, getElem!_def]; cases zs[j]? <;> rfl
set_option maxHeartbeats 2000000 in
set_option maxRecDepth 100000 in
theorem index_any (p : Msg → Bool) (g : Nat) (lb : Array Value) (eg : ∀ args w, (callFunc g args).run Try.prog w = .ok (.enter g args) w) (b n c : Nat) (zs : List Msg) (w : World)
    (hp : PredB g lb p (fun _ => False) w) (hC : kMsg.C w (some ⟨b, 0, none⟩) n zs) :
    Calls Try.prog 117 #[.slice (some ⟨b, 0, none⟩) n c, .func (.func g) #[] lb] w fun e w' => e = .returned (.int .i64 (Lib.idxBy (fun _ y => p y) zs default)) ∧ Below w.heap.size w w' := by
  have hbig : n ≤ 9223372036854775807 := hC.2.1
  have hn : zs.length = n := hC.1
  have hrow : ∀ W, Below w.heap.size w W → ∀ j, j < n → W.rangeAt b (j * 33) (encM zs[j]!) := fun W hW j hj i u hu => by
    obtain ⟨ad, he, hc⟩ := msg_at hC j hj
    injection he with he
    subst he
    rw [getD_bang] at hc
    have := hc i u hu
    rw [add_plain] at this
    exact pw_cell_below hW this
  have HR := Lib.hid hrow
  have HP := Lib.hid hp
  have HN := Lib.hid hn
  clear hrow hp hC hn
  go_enter Try.func117, Try.ntmps117
  go_wp2
  go_loopg [5, 8] n (fun gg _ s8 wr => ∃ kk : Nat, kk ≤ n ∧ n - kk ≤ gg ∧ s8 = .int .i64 kk ∧ Hid (Below w.heap.size w wr) ∧ Hid (∀ j, j < kk → p zs[j]! = false))
  case atStart => exact ⟨0, Nat.zero_le _, by omega, rfl, Lib.hid (Below.refl _ w), Lib.hid (fun j hj => absurd hj (Nat.not_lt_zero _))⟩
  case round =>
    obtain ⟨kk, hkk, hg, rfl, BW, A⟩ := hrel
    by_cases hlt : kk < n
    · have hltz : (kk : Int) < (n : Int) := by omega
      have l2 := Lib.hid (HR.out wr BW.out kk hlt)
      have hcall := Lib.hid (HP.out wr zs[kk]! (Mod.of_below BW.out _))
      generalize hy : zs[kk]! = y at l2 hcall
      have B := Lib.hid hy
      clear hy
      have hi : (Try.prog.info? 124).map (·.size) = some (encM y).length := by rw [encM_length]; exact size124
      have HI := Lib.hid hi
      clear hi
      cases hq : p y with
      | true =>
        have HQ := Lib.hid hq
        clear hq
        go_wp2_with (refine wpList_load_mid rfl 124 _ rfl b (kk * 33) rfl (encM y) _ l2.out Try.underlying124 rfl HI.out ?_)
        refine hcall.out.mono ?_
        rw [HQ.out]
        rintro e w' ⟨rfl, hb'⟩
        go_wp2_with fail
        go_ret
        refine ⟨?_, BW.out.trans (hb'.mono BW.out.size)⟩
        have := Lib.idxBy_hit (fun _ y => p y) zs n kk default hlt (by rw [HN.out]; exact Nat.le_refl _) (by show p zs[kk]! = true; rw [B.out]; exact HQ.out) A.out
        rw [List.take_of_length_le (by rw [HN.out]; exact Nat.le_refl _)] at this
        rw [this]
        rfl
      | false =>
        have HQ := Lib.hid hq
        clear hq
        go_wp2_with (refine wpList_load_mid rfl 124 _ rfl b (kk * 33) rfl (encM y) _ l2.out Try.underlying124 rfl HI.out ?_)
        refine hcall.out.mono ?_
        rw [HQ.out]
        rintro e w' ⟨rfl, hb'⟩
        go_wp2_with fail
        go_roundg (n - (kk + 1))
        case measure => omega
        case rel =>
          refine ⟨kk + 1, by omega, by omega, by go_num, Lib.hid (BW.out.trans (hb'.mono BW.out.size)), Lib.hid (fun j hj => ?_)⟩
          by_cases e : j = kk
          · subst e
            rw [B.out]; exact HQ.out
          · exact A.out j (by omega)
    · have hltz : ¬ (kk : Int) < (n : Int) := by omega
      go_wp2_with fail
      go_ret
      obtain rfl : kk = n := by omega
      refine ⟨?_, BW.out⟩
      have := Lib.idxBy_miss (fun _ y => p y) zs kk default A.out
      rw [List.take_of_length_le (by rw [HN.out]; exact Nat.le_refl _)] at this
      rw [this]
      rfl
theorem index_nil (f : Value) (w : World) :
    Calls Try.prog 117 #[.slice none 0 0, f] w fun e w' => e = .returned (.int .i64 (-1)) ∧ w = w' := by
  go_enter Try.func117, Try.ntmps117
  go_wp2
  go_loopg [5, 8] 1 (fun gg _ s8 wr => s8 = .int .i64 0 ∧ w = wr ∧ 1 ≤ gg)
  case atStart => exact ⟨rfl, rfl, Nat.le_refl _⟩
  case round =>
    obtain ⟨rfl, rfl, _⟩ := hrel
    go_wp2
    go_ret
    exact ⟨rfl, rfl⟩
set_option maxHeartbeats 1000000 in
set_option maxRecDepth 100000 in
/-- slices.ContainsFunc at a row of one's own. -/
theorem contains_any (p : Msg → Bool) (g : Nat) (lb : Array Value) (eg : ∀ args w, (callFunc g args).run Try.prog w = .ok (.enter g args) w) (A : Option Addr) (n c : Nat) (zs : List Msg) (ok : Nat → Prop) (w : World)
    (hp : PredB g lb p (fun _ => False) w) (HR : kMsg.R 124 w 0 ok (.slice A n c) zs) :
    Calls Try.prog 81 #[.slice A n c, .func (.func g) #[] lb] w fun e w' => e = .returned (.bool (zs.any p)) ∧ Below w.heap.size w w' := by
  obtain ⟨hn, _, hC⟩ := Kd.R_reads' HR
  obtain ⟨_, inner, ho, _⟩ := HR
  rcases ho.2 with ⟨hv, h0⟩ | ⟨b, cap, cur, hv, _⟩
  · injection hv with h1 h2 h3
    subst h1; subst h2; subst h3
    obtain rfl : zs = [] := List.eq_nil_of_length_eq_zero h0
    clear hn hC ho h0 hp eg
    go_enter Try.func81, Try.ntmps81
    go_wp2_with (go_at_call 117; refine (index_nil _ _).mono ?_; rintro e w' ⟨rfl, rfl⟩)
    go_ret
    exact ⟨rfl, Below.refl _ _⟩
  · injection hv with h1 h2 h3
    subst h1
    clear h2 h3
    have hI := index_any p g lb eg b n c zs w hp (hn ▸ hC)
    have hr : decide (0 ≤ Lib.idxBy (fun _ y => p y) zs default) = zs.any p := Lib.idxBy_nonneg_iff (fun _ y => p y) zs default
    rw [← hr]
    generalize Lib.idxBy (fun _ y => p y) zs default = r at hI ⊢
    have HI := Lib.hid hI
    clear hI hr hn hC ho hp
    go_enter Try.func81, Try.ntmps81
    go_wp2_with (go_at_call 117; refine HI.out.mono ?_; rintro e w' ⟨rfl, hb'⟩)
    go_ret
    exact ⟨rfl, hb'⟩
end Go.Proofs.Ytcdhgpodoigddaa
