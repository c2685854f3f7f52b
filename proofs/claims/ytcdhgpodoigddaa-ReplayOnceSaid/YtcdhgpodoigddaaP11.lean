/-
  The law ReplayPlays, walked.
-/
import Derived.Test.YtcdhgpodoigddaaP10
import Derived.Deep.RegionHeld3
import Derived.Deep.QuietTactic
import Derived.BigQuiet
namespace Go.Proofs.Ytcdhgpodoigddaa
open Go.RowKit Go.Proofs.YtcdhgpodoigddaaW.PrintWords Go.Proofs.YtcdhgpodoigddaaW.PrintLast Go.Proofs.YtcdhgpodoigddaaW.PrintMore
set_option linter.unusedVariables false
set_option linter.unusedSimpArgs false
attribute [local go_sem] max2_max min2_min max_two min_two
/-! #### struct type 33 -/
structure S33 where
  f0 : Int
  f1 : Int
  f2 : (List Int)
  f3 : Bool
def z33 : S33 := ⟨(0 : Int), (0 : Int), ([] : List Int), false⟩
def k33 : Kd S33 := Kd.iso (Kd.pair (Kd.int .i64) (Kd.pair (Kd.int .i64) (Kd.pair (Kd.slice 5 (Kd.int .u8)) Kd.bool))) (fun x : S33 => (x.f0, x.f1, x.f2, x.f3))
theorem k33_heap : Kd.Heap k33 := Kd.heap_iso _ (Kd.heap_pair (Kd.heap_int .i64) (Kd.heap_pair (Kd.heap_int .i64) (Kd.heap_pair (Kd.heap_slice 5 (Kd.heap_int .u8)) Kd.heap_bool)))
theorem k33_open {w : World} {x : S33} {cs : List Value} (h : k33.K w x cs) : ∃ A2 c2, cs = [.int .i64 x.f0, .int .i64 x.f1, .slice A2 x.f2.length c2, .bool x.f3] ∧ x.f2.length ≤ c2 ∧ (Kd.int .u8).C w A2 x.f2.length x.f2 := by
  obtain ⟨_, _, rfl, rfl, ⟨_, _, rfl, rfl, ⟨_, _, rfl, ⟨A2, c2, rfl, l2, g2⟩, rfl⟩⟩⟩ := h
  exact ⟨A2, c2, rfl, l2, g2⟩
theorem k33_openM {w : World} {base : Nat} {ok : Nat → Prop} {x : S33} {cs : List Value} (h : k33.M w base ok x cs) : ∃ v2, cs = [.int .i64 x.f0, .int .i64 x.f1, v2, .bool x.f3] ∧ (Kd.int .u8).R 5 w base ok v2 x.f2 := by
  obtain ⟨_, _, rfl, rfl, ⟨_, _, rfl, rfl, ⟨_, _, rfl, ⟨v2, rfl, g2⟩, rfl⟩⟩⟩ := h
  exact ⟨v2, rfl, g2⟩
theorem k33_mk (w : World) (x : S33) {A2 : Option Addr} {c2 : Nat} (l2 : x.f2.length ≤ c2) (g2 : (Kd.int .u8).C w A2 x.f2.length x.f2) : k33.K w x [.int .i64 x.f0, .int .i64 x.f1, .slice A2 x.f2.length c2, .bool x.f3] := ⟨[.int .i64 x.f0], [.int .i64 x.f1, .slice A2 x.f2.length c2, .bool x.f3], rfl, rfl, ⟨[.int .i64 x.f1], [.slice A2 x.f2.length c2, .bool x.f3], rfl, rfl, ⟨[.slice A2 x.f2.length c2], [.bool x.f3], rfl, ⟨A2, c2, rfl, l2, g2⟩, rfl⟩⟩⟩
theorem k33_mkM (w : World) (base : Nat) (ok : Nat → Prop) (x : S33) {v2 : Value} (g2 : (Kd.int .u8).R 5 w base ok v2 x.f2) : k33.M w base ok x [.int .i64 x.f0, .int .i64 x.f1, v2, .bool x.f3] := ⟨[.int .i64 x.f0], [.int .i64 x.f1, v2, .bool x.f3], rfl, rfl, ⟨[.int .i64 x.f1], [v2, .bool x.f3], rfl, rfl, ⟨[v2], [.bool x.f3], rfl, ⟨v2, rfl, g2⟩, rfl⟩⟩⟩
theorem k33_openF {W : World} {ok : Nat → Prop} {x : S33} {cs : List Value} (h : Kd.FK k33 W ok x cs) : ∃ A2 c2, cs = [.int .i64 x.f0, .int .i64 x.f1, .slice A2 x.f2.length c2, .bool x.f3] ∧ x.f2.length ≤ c2 ∧ Kd.F (Kd.int .u8) W ok A2 x.f2.length x.f2 := by
  obtain ⟨A2, c2, rfl, l2, _⟩ := k33_open (Kd.FK_now h)
  exact ⟨A2, c2, rfl, l2, (fun W' hW => by obtain ⟨A2_, c2_, he, l2_, g2_⟩ := k33_open (h W' hW); injection (Option.some.inj (show some (Value.slice A2 x.f2.length c2) = some (Value.slice A2_ x.f2.length c2_) from congrArg (fun l => l[2]?) he)) with ha_ _ _; rw [ha_]; exact g2_)⟩
theorem k33_mkF (W : World) (ok : Nat → Prop) (x : S33) {A2 : Option Addr} {c2 : Nat} (l2 : x.f2.length ≤ c2) (g2 : Kd.F (Kd.int .u8) W ok A2 x.f2.length x.f2) : Kd.FK k33 W ok x [.int .i64 x.f0, .int .i64 x.f1, .slice A2 x.f2.length c2, .bool x.f3] := fun W2 hW => k33_mk W2 x l2 (g2 W2 hW)
def rd_T33 (xs : List S33) (i : Int) : S33 := xs.getD i.toNat z33
theorem at_T33 {w : World} {A : Option Addr} {n : Nat} {xs : List S33} (h : Kd.C k33 w A n xs) (i : Int) (h0 : 0 ≤ i) (h1 : i < n) : ∃ ad A2 c2, A = some ad ∧ w.cell? (ad.add (i.toNat * 4)) = some (.int .i64 (rd_T33 xs i).f0) ∧ w.cell? ⟨(ad.add (i.toNat * 4)).block, (ad.add (i.toNat * 4)).off + 1, none⟩ = some (.int .i64 (rd_T33 xs i).f1) ∧ w.cell? ⟨(ad.add (i.toNat * 4)).block, (ad.add (i.toNat * 4)).off + 2, none⟩ = some (.slice A2 (rd_T33 xs i).f2.length c2) ∧ w.cell? ⟨(ad.add (i.toNat * 4)).block, (ad.add (i.toNat * 4)).off + 3, none⟩ = some (.bool (rd_T33 xs i).f3) ∧ (rd_T33 xs i).f2.length ≤ c2 ∧ (Kd.int .u8).C w A2 (rd_T33 xs i).f2.length (rd_T33 xs i).f2 := by
  obtain ⟨ad, c, e, _, hK, hc0⟩ := Kd.C_get h z33 i h0 h1
  have hc : ∀ j u, c[j]? = some u → w.cell? (ad.add (i.toNat * 4 + j)) = some u := hc0
  obtain ⟨A2, c2, rfl, l2, g2⟩ := k33_open hK
  exact ⟨ad, A2, c2, e, hc 0 _ rfl, by rw [← add_field _ _ 1 (by omega)]; exact hc 1 _ rfl, by rw [← add_field _ _ 2 (by omega)]; exact hc 2 _ rfl, by rw [← add_field _ _ 3 (by omega)]; exact hc 3 _ rfl, l2, g2⟩


/-- The program's filter lies in okS's blocks, the reference's in okR's; all of them are new since w. -/
structure ApartF (w W : World) (okS okR : Nat → Prop) : Prop where
  s : ∀ k, okS k → w.heap.size ≤ k ∧ k < W.heap.size
  r : ∀ k, okR k → w.heap.size ≤ k ∧ k < W.heap.size
  d : ∀ k, okS k → ¬ okR k
  b : Below w.heap.size w W
def FBoth (w W : World) (g g' : Nat) (f : Fil) : Prop := ∃ okS okR, ApartF w W okS okR ∧ IsFil W okS g f ∧ IsFilR W okR g' f
theorem ApartF.below {w W W1 : World} {okS okR : Nat → Prop} (h : ApartF w W okS okR) (hb : Below W.heap.size W W1) : ApartF w W1 okS okR := by
  have hs := hb.size
  exact ⟨fun k hk => ⟨(h.s k hk).1, by have := (h.s k hk).2; omega⟩, fun k hk => ⟨(h.r k hk).1, by have := (h.r k hk).2; omega⟩, h.d, h.b.trans (hb.mono h.b.size)⟩
theorem fboth_new {w w1 w2 : World} {g g' : Nat} {f : Fil} (hS : IsFil w1 (fun k => w.heap.size ≤ k) g f) (hb1 : Below w.heap.size w w1) (hR : IsFilR w2 (fun k => w1.heap.size ≤ k) g' f) (hb2 : Below w1.heap.size w1 w2) : FBoth w w2 g g' f := by
  have q1 := hb1.size
  have q2 := hb2.size
  exact ⟨fun k => w.heap.size ≤ k ∧ k < w1.heap.size, fun k => w1.heap.size ≤ k ∧ k < w2.heap.size, ⟨fun k hk => ⟨hk.1, by omega⟩, fun k hk => ⟨by omega, hk.2⟩, fun k hk hn => by omega, hb1.trans (hb2.mono q1)⟩, isFil_below (isFil_bound hS) hb2, isFilR_bound hR⟩
theorem fboth_step {w W w1 w2 : World} {okS okR : Nat → Prop} {g g' : Nat} {f1 : Fil} (ha : ApartF w W okS okR) (hS : IsFil w1 (fun k => okS k ∨ W.heap.size ≤ k) g f1) (hm1 : Mod okS W w1) (hR : IsFilR w2 (fun k => okR k ∨ w1.heap.size ≤ k) g' f1) (hm2 : Mod okR w1 w2) : FBoth w w2 g g' f1 := by
  have q0 := ha.b.size
  have q1 := hm1.size
  have q2 := hm2.size
  refine ⟨fun k => (okS k ∨ W.heap.size ≤ k) ∧ k < w1.heap.size, fun k => (okR k ∨ w1.heap.size ≤ k) ∧ k < w2.heap.size, ⟨fun k hk => ⟨?_, by omega⟩, fun k hk => ⟨?_, hk.2⟩, fun k hk hn => ?_, ?_⟩, isFil_mod (isFil_bound hS) hm2 (fun k hk hn => ?_), isFilR_bound hR⟩
  · rcases hk.1 with h | h
    · exact (ha.s k h).1
    · omega
  · rcases hk.1 with h | h
    · exact (ha.r k h).1
    · omega
  · rcases hn.1 with h | h
    · rcases hk.1 with h' | h'
      · exact ha.d k h' h
      · have := (ha.r k h).2; omega
    · have := hk.2; omega
  · have h1 : Below w.heap.size W w1 := hm1.below (fun k hk => (ha.s k hk).1) q0
    have h2 : Below w.heap.size w1 w2 := hm2.below (fun k hk => (ha.r k hk).1) (by omega)
    exact (ha.b.trans h1).trans h2
  · rcases hk.1 with h' | h'
    · exact ha.d k h' hn
    · have := (ha.r k hn).2; omega
theorem FBoth.below {w W W1 : World} {g g' : Nat} {f : Fil} (h : FBoth w W g g' f) (hb : Below W.heap.size W W1) : FBoth w W1 g g' f := by
  obtain ⟨okS, okR, ha, hS, hR⟩ := h
  exact ⟨okS, okR, ha.below hb, isFil_below hS hb, isFilR_below hR hb⟩
theorem keyOf_bytes {xs : List Int} (h : ByteL xs) : ByteL (keyOf xs) := fun x hx => by
  unfold keyOf at hx
  rcases List.mem_append.1 hx with q | q
  · exact h x (List.mem_of_mem_take q)
  · rw [List.eq_of_mem_replicate (List.mem_of_mem_drop q)]; omega
/-- The key that both are handed: a slice that nothing of theirs touches. -/
def E13 (okS okR : Nat → Prop) (wx : World) (v : Value) : Prop := ∃ A n c xs, v = .slice A n c ∧ n ≤ c ∧ ByteL xs ∧ ∀ W, Mod (fun k => okS k ∨ okR k ∨ wx.heap.size ≤ k) wx W → kB.C W A n xs
theorem C_mod0 {w W : World} {S : Nat → Prop} {A : Option Addr} {n : Nat} {xs : List Int} (h : kB.C w A n xs) (hm : Mod S w W) (hS : ∀ k, k < w.heap.size → (∃ ad, A = some ad ∧ ad.block = k) → ¬ S k) : kB.C W A n xs := by
  refine ⟨h.1, h.2.1, fun hn => ?_⟩
  obtain ⟨ad, he, hc⟩ := h.2.2 hn
  refine ⟨ad, he, fun j p hj => ?_⟩
  obtain ⟨c, hl, hK, hcc⟩ := hc j p hj
  exact ⟨c, hl, hK, fun i u hu => hm.cell (hcc i u hu) (by
    have hb := World.block_lt_of_cell? w _ (hcc i u hu)
    rw [add_block] at hb ⊢
    exact hS _ hb ⟨ad, he, rfl⟩)⟩
theorem e13_old {w wr wx : World} {okS okR : Nat → Prop} {A : Option Addr} {n c : Nat} {xs : List Int} (ha : ApartF w wr okS okR) (hC : kB.C w A n xs) (hl : n ≤ c) (hx : ByteL xs) (hb : Below wr.heap.size wr wx) (hs : w.heap.size ≤ wx.heap.size) : E13 okS okR wx (.slice A n c) := by
  refine ⟨A, n, c, xs, rfl, hl, hx, fun W hm => ?_⟩
  have h1 : Mod (fun k => w.heap.size ≤ k) w wx := Mod.of_below (ha.b.trans (hb.mono ha.b.size)) _
  have h2 : Mod (fun k => w.heap.size ≤ k) w W := h1.andThen hm (fun k hk => by
    rcases hk with hk | hk | hk
    · exact .inl (ha.s k hk).1
    · exact .inl (ha.r k hk).1
    · exact .inl (Nat.le_trans hs hk))
  exact C_mod0 hC h2 (fun k hk _ => by omega)
theorem e13_key {w wr W0 wx : World} {okS okR : Nat → Prop} {v : Value} {xs : List Int} (ha : ApartF w wr okS okR) (hR : kB.R 5 wx W0.heap.size (fun k => W0.heap.size ≤ k) v (keyOf xs)) (h0 : wr.heap.size ≤ W0.heap.size) (hx : ByteL xs) : E13 okS okR wx v := by
  obtain ⟨g, cap, rfl, h1, h2, _⟩ := Kd.R_form hR (by rw [keyOf_length]; decide)
  obtain ⟨_, h3, h4⟩ := Kd.R_reads' hR
  refine ⟨_, _, _, keyOf xs, rfl, h3, keyOf_bytes hx, fun W hm => C_mod0 h4 hm (fun k hk he hn => ?_)⟩
  obtain ⟨ad, he1, he2⟩ := he
  injection he1 with he1
  subst he1
  have he2' : g = k := he2
  subst he2'
  rcases hn with hn | hn | hn
  · have := (ha.s _ hn).2; omega
  · have := (ha.r _ hn).2; omega
  · omega
theorem wpAnyH_weak {P : Program} {ops : Array Oper} {Q : Exit → Act → World → Prop} {md : Region.Mode} {S S2 : World → Prop} (h : ∀ w, S2 w → S w) : ∀ (fuel : Nat) (listed : Array Bool) (a : Act) (w : World), wpAnyH P md ops Q S2 fuel listed a w → wpAnyH P md ops Q S fuel listed a w
  | 0, _, _, _, q => q
  | fuel + 1, _, _, _, q => ⟨q.1, fun i hi => wpOp_mono (fun a' w' h' => ⟨h w' h'.1, wpAnyH_weak h fuel _ a' w' h'.2⟩) (q.2 i hi)⟩
theorem since_q {ok : Nat → Prop} {g : Nat} {f : Fil} {w : World} (h : IsFil w ok g f) : Calls Try.prog 18 #[.pointer (some ⟨g, 0, none⟩)] w fun e w' => e = .returned (.int .i64 f.since) ∧ w' = w := (since_p g f w h).mono (fun e w' q => ⟨q.1, q.2.symm⟩)
theorem len_q {ok : Nat → Prop} {g : Nat} {f : Fil} {w : World} (h : IsFil w ok g f) : Calls Try.prog 22 #[.pointer (some ⟨g, 0, none⟩)] w fun e w' => e = .returned (.int .i64 f.l.length) ∧ w' = w := (len_p g f w h).mono (fun e w' q => ⟨q.1, q.2.symm⟩)
set_option maxHeartbeats 8000000 in
set_option maxRecDepth 100000 in
theorem plays_any (a0 b0 c0 : Int) (A : Option Addr) (n cap : Nat) (l : List S33) (w : World) (hC : Kd.C k33 w A n l) (hby : ∀ x ∈ l, ByteL x.f2) :
    Calls Try.prog 3 #[.int .i64 a0, .int .i64 b0, .int .i64 c0, .slice A n cap] w fun e w' => e = .returned (.bool true) ∧ Below w.heap.size w w' := by
  have hbig : n ≤ 9223372036854775807 := hC.2.1
  have HC := Lib.hid hC
  have hby' : ∀ i : Int, ByteL (rd_T33 l i).f2 := fun i => by
    unfold rd_T33
    rw [List.getD_eq_getElem?_getD]
    rcases h : l[i.toNat]? with _ | x
    · exact fun x hx => by simp [z33] at hx
    · exact hby x (List.mem_of_getElem? h)
  have HBY := Lib.hid hby'
  obtain ⟨fi, hfi⟩ : ∃ fi, Fil.new a0 b0 c0 = fi := ⟨_, rfl⟩
  have HFI : Hid fi.Good := Lib.hid (hfi ▸ good_new a0 b0 c0)
  have HFE := Lib.hid hfi
  clear hC hby hby' hfi
  go_enter Try.func3, Try.ntmps3
  go_wp2_with fail
  refine (new_fil_p a0 b0 c0 w).mono ?_
  rw [HFE.out]
  rintro e w1 ⟨g, rfl, hS1, hb1⟩
  have HS1 := Lib.hid hS1
  have HB1 := Lib.hid hb1
  clear hS1 hb1
  go_wp2_with fail
  refine (new_fil_r a0 b0 c0 w1).mono ?_
  rw [HFE.out]
  rintro e w2 ⟨g', rfl, hR2, hb2⟩
  have HSS := Lib.hid (isFil_below HS1.out hb2)
  have HB0 := Lib.hid (fboth_new HS1.out HB1.out hR2 hb2)
  obtain ⟨vr, hbr, _, _⟩ := id hR2
  have r1 : w2.cell? ⟨g', 1, none⟩ = some (.int .i64 fi.since) := (blk_cell hbr 1).trans rfl
  have n1 : (fi.since != fi.since) = false := bne_self_eq_false _
  clear hR2 hb2 hbr HS1 HB1
  go_wp2_with fail
  go_quiet ((go_at_call 18; exact Calls.quiet_of_same (since_q (isFil_below HSS.out (pw_below_drewN (Below.refl _ _) _)))))
  go_wp2_with fail
  have HB2 := Lib.hid (HB0.out.below (pw_below_drewN (Below.refl _ _) nq))
  clear HB0 HSS r1 n1
  generalize w2.drewN nq = W2 at *
  go_loopg [35] n (fun gg s35 wr => ∃ k : Nat, s35 = .int .i64 k ∧ k ≤ n ∧ n - k ≤ gg ∧ ∃ f : Fil, Hid f.Good ∧ Hid (FBoth w wr g g' f))
  case atStart => exact ⟨0, rfl, Nat.zero_le _, by omega, fi, HFI, HB2⟩
  case round =>
    obtain ⟨k, rfl, hk, hgg, f, HF, HBo⟩ := hrel
    clear HB2 HFI HFE
    obtain ⟨okS, okR, ha0, hS0, hR0⟩ := HBo.out
    have hB := Lib.hid ha0.b
    have HA0 := Lib.hid ha0
    have HS0 := Lib.hid hS0
    have HR0 := Lib.hid hR0
    clear ha0 hS0 hR0
    by_cases hlt : k < n
    rotate_left
    · have hnx : ¬ (k : Int) < (n : Int) := by omega
      go_wp2_with (go_at_call 23; refine (awake_p _).mono ?_; rintro e wz ⟨rfl, hbz⟩)
      go_ret
      exact ⟨rfl, hB.out.trans (hbz.mono hB.out.size)⟩
    · obtain ⟨ad, A2, c2, rfl, x0, x1, x2, x3, l2, g2⟩ := at_T33 HC.out k (by omega) (by omega)
      simp only [Int.toNat_natCast] at x0 x1 x2 x3
      replace x0 := pw_cell_below hB.out x0
      replace x1 := pw_cell_below hB.out x1
      replace x2 := pw_cell_below hB.out x2
      replace x3 := pw_cell_below hB.out x3
      have hk0 : (0 : Int) ≤ (k : Int) := by omega
      have hkn : (k : Int) < (n : Int) := by omega
      have HBX := Lib.hid (HBY.out (k : Int))
      generalize rd_T33 l (k : Int) = x at *
      have HG2 := Lib.hid g2
      clear g2
      by_cases h80 : 80 ≤ k
      · have hd : decide ((80 : Int) ≤ (k : Int)) = true := decide_eq_true (by omega)
        go_wp2_with (go_at_call 23; refine (awake_p _).mono ?_; rintro e wz ⟨rfl, hbz⟩)
        go_ret
        exact ⟨rfl, (hB.out.alloc hB.out.size _).trans (hbz.mono (by have := hB.out.size; simp; omega))⟩
      have hd : decide ((80 : Int) ≤ (k : Int)) = false := decide_eq_false (by omega)
      by_cases h50 : 50 < x.f2.length
      · have hd2 : decide (50 < x.f2.length) = true := decide_eq_true h50
        have hd3 : decide ((50 : Int) < (x.f2.length : Int)) = true := decide_eq_true (by omega)
        go_wp2_with (go_at_call 23; refine (awake_p _).mono ?_; rintro e wz ⟨rfl, hbz⟩)
        go_ret
        exact ⟨rfl, (hB.out.alloc hB.out.size _).trans (hbz.mono (by have := hB.out.size; simp; omega))⟩
      have hd2 : decide (50 < x.f2.length) = false := decide_eq_false h50
      have hd3 : decide ((50 : Int) < (x.f2.length : Int)) = false := decide_eq_false (by omega)
      have HBOX : Hid ((wr.alloc (.cells #[.int .i64 x.f0, .int .i64 x.f1, .slice A2 x.f2.length c2, .bool x.f3] 33)).heap[wr.heap.size]? = some (.cells #[.int .i64 x.f0, .int .i64 x.f1, .slice A2 x.f2.length c2, .bool x.f3] 33 (0, 0))) := Lib.hid (heap_alloc_new wr _)
      have HBA : Hid (Below wr.heap.size wr (wr.alloc (.cells #[.int .i64 x.f0, .int .i64 x.f1, .slice A2 x.f2.length c2, .bool x.f3] 33))) := Lib.hid ((Below.refl _ _).alloc (Nat.le_refl _) _)
      have HCA : Hid (kB.C (wr.alloc (.cells #[.int .i64 x.f0, .int .i64 x.f1, .slice A2 x.f2.length c2, .bool x.f3] 33)) A2 x.f2.length x.f2) := Lib.hid (Kd.C_below HG2.out (hB.out.alloc hB.out.size _))
      go_wp2_with fail
      refine (key_any A2 _ c2 x.f2 _ HCA.out).mono ?_
      rintro e w3 ⟨v3, rfl, hR3, hb3⟩
      have HR3 := Lib.hid hR3
      have HB3 := Lib.hid (HBA.out.trans (hb3.mono HBA.out.size))
      have hbx := blk_below HBOX.out hb3
      have HBX3 := Lib.hid hbx
      have z3 : w3.cell? ⟨wr.heap.size, 3, none⟩ = some (.bool x.f3) := (blk_cell hbx 3).trans rfl
      have z2 : w3.cell? ⟨wr.heap.size, 2, none⟩ = some (.slice A2 x.f2.length c2) := (blk_cell hbx 2).trans rfl
      have hsw := hB.out.size
      have hs3 := HB3.out.size
      have HE1 : Hid (E13 okS okR w3 v3) := Lib.hid (e13_key HA0.out hR3 HBA.out.size HBX.out)
      have HE2 : Hid (E13 okS okR w3 (.slice A2 x.f2.length c2)) := Lib.hid (e13_old HA0.out HG2.out l2 HBX.out HB3.out (by omega))
      clear hR3 hb3 hbx x0 x1 x2 x3 HCA HBOX HBA HR3
      go_upto_if 52 with fail
      go_cut [13] (fun s13 wx => Hid (E13 okS okR wx s13) ∧ Hid (Below wr.heap.size wr wx) ∧ Hid (wx.heap[wr.heap.size]? = some (.cells #[.int .i64 x.f0, .int .i64 x.f1, .slice A2 x.f2.length c2, .bool x.f3] 33 (0, 0))))
      case first =>
        rcases hodd : x.f3 with _ | _
        · (go_wp2_with fail; go_meet)
          exact ⟨HE1, HB3, HBX3⟩
        · (go_wp2_with fail; go_meet)
          exact ⟨HE2, HB3, HBX3⟩
      case rest =>
        obtain ⟨HE, HBw, HBx⟩ := hcut
        clear HE1 HE2 HB3 HBX3 z2 z3
        obtain ⟨Ae, ne, ce, xe, rfl, hle, hbe, hCe⟩ := HE.out
        have HCe := Lib.hid hCe
        have HXe := Lib.hid hbe
        have y0 : wc.cell? ⟨wr.heap.size, 0, none⟩ = some (.int .i64 x.f0) := (blk_cell HBx.out 0).trans rfl
        have y1 : wc.cell? ⟨wr.heap.size, 1, none⟩ = some (.int .i64 x.f1) := (blk_cell HBx.out 1).trans rfl
        have HAw := Lib.hid (HA0.out.below HBw.out)
        have HSw := Lib.hid (isFil_below HS0.out HBw.out)
        have HRw := Lib.hid (isFilR_below HR0.out HBw.out)
        clear HE hbe hCe hs3
        have hsc := HBw.out.size
        go_upto_region 11 with fail
        obtain ⟨en, f1, hck⟩ : ∃ en f1, f.check x.f0 x.f1 xe = (en, f1) := ⟨_, _, rfl⟩
        have HG1 : Hid f1.Good := Lib.hid (by have := good_check HF.out x.f0 x.f1 xe HXe.out; rwa [hck] at this)
        have HCK := Lib.hid hck
        have n1 : (en != en) = false := bne_self_eq_false _
        have n2 : ((f1.l.length : Int) != (f1.l.length : Int)) = false := bne_self_eq_false _
        clear hck
        refine wp_region_held_drew (S := (fun w' => w'.cell? ⟨wr.heap.size, 0, none⟩ = some (.int .i64 x.f0) ∧ w'.cell? ⟨wr.heap.size, 1, none⟩ = some (.int .i64 x.f1))) (by kernel_rfl) ⟨y0, y1⟩ (fun hHeld => ?_)
        refine wpAnyH_take (i := 0) (v := ?v0) rfl (by kernel_rfl) (by kernel_rfl) (by kernel_rfl) (fun _ _ _ h => h) (Or.inl ⟨by rfl, fun w hSw => ?hy0⟩) (by assumption) ?rest0
        case hy0 => ((try dsimp only at hSw); go_simp; try with_reducible rfl)
        try simp only [Act.put, List.setIfInBounds_toArray, List.set_cons_zero, List.set_cons_succ]
        refine wpAnyH_take (i := 1) (v := ?v1) rfl (by kernel_rfl) (by kernel_rfl) (by kernel_rfl) (fun _ _ _ h => h) (Or.inl ⟨by rfl, fun w hSw => ?hy1⟩) (by assumption) ?rest1
        case hy1 => ((try dsimp only at hSw); go_simp; try with_reducible rfl)
        try simp only [Act.put, List.setIfInBounds_toArray, List.set_cons_zero, List.set_cons_succ]
        refine wpAnyH_take (i := 2) (v := ?v2) rfl (by kernel_rfl) (by kernel_rfl) (by kernel_rfl) (fun _ _ _ h => h) (Or.inl ⟨by rfl, fun w hSw => ?hy2⟩) (by assumption) ?rest2
        case hy2 => ((try dsimp only at hSw); go_simp; try with_reducible rfl)
        try simp only [Act.put, List.setIfInBounds_toArray, List.set_cons_zero, List.set_cons_succ]
        refine wpAnyH_take (i := 3) (v := ?v3) rfl (by kernel_rfl) (by kernel_rfl) (by kernel_rfl) (fun _ _ _ h => h) (Or.inl ⟨by rfl, fun w hSw => ?hy3⟩) (by assumption) ?rest3
        case hy3 => ((try dsimp only at hSw); go_simp; try with_reducible rfl)
        try simp only [Act.put, List.setIfInBounds_toArray, List.set_cons_zero, List.set_cons_succ]
        refine wpAnyH_take (i := 4) (v := ?v4) rfl (by kernel_rfl) (by kernel_rfl) (by kernel_rfl) (fun _ _ _ h => h) (Or.inl ⟨by rfl, fun w hSw => ?hy4⟩) (by assumption) ?rest4
        case hy4 => ((try dsimp only at hSw); go_simp; try with_reducible rfl)
        try simp only [Act.put, List.setIfInBounds_toArray, List.set_cons_zero, List.set_cons_succ]
        refine wpAnyH_take (i := 5) (v := ?v5) rfl (by kernel_rfl) (by kernel_rfl) (by kernel_rfl) (fun _ _ _ h => h) (Or.inl ⟨by rfl, fun w hSw => ?hy5⟩) (by assumption) ?rest5
        case hy5 => ((try dsimp only at hSw); go_simp; try with_reducible rfl)
        try simp only [Act.put, List.setIfInBounds_toArray, List.set_cons_zero, List.set_cons_succ]
        refine wpAnyH_take (i := 7) (v := ?v7) rfl (by kernel_rfl) (by kernel_rfl) (by kernel_rfl) (fun _ _ _ h => h) (Or.inl ⟨by rfl, fun w hSw => ?hy7⟩) (by assumption) ?rest7
        case hy7 => ((try dsimp only at hSw); go_simp; try with_reducible rfl)
        try simp only [Act.put, List.setIfInBounds_toArray, List.set_cons_zero, List.set_cons_succ]
        refine wpAnyH_take (i := 8) (v := ?v8) rfl (by kernel_rfl) (by kernel_rfl) (by kernel_rfl) (fun _ _ _ h => h) (Or.inl ⟨by rfl, fun w hSw => ?hy8⟩) (by assumption) ?rest8
        case hy8 => ((try dsimp only at hSw); go_simp; try with_reducible rfl)
        try simp only [Act.put, List.setIfInBounds_toArray, List.set_cons_zero, List.set_cons_succ]
        refine wpAnyH_take (i := 9) (v := ?v9) rfl (by kernel_rfl) (by kernel_rfl) (by kernel_rfl) (fun _ _ _ h => h) (Or.inl ⟨by rfl, fun w hSw => ?hy9⟩) (by assumption) ?rest9
        case hy9 => ((try dsimp only at hSw); go_simp; try with_reducible rfl)
        try simp only [Act.put, List.setIfInBounds_toArray, List.set_cons_zero, List.set_cons_succ]
        refine wpAnyH_take (i := 10) (v := ?v10) rfl (by kernel_rfl) (by kernel_rfl) (by kernel_rfl) (fun _ _ _ h => h) (Or.inl ⟨by rfl, fun w hSw => ?hy10⟩) (by assumption) ?rest10
        case hy10 => ((try dsimp only at hSw); go_simp; try with_reducible rfl)
        try simp only [Act.put, List.setIfInBounds_toArray, List.set_cons_zero, List.set_cons_succ]
        refine wpAnyH_take (i := 11) (v := ?v11) rfl (by kernel_rfl) (by kernel_rfl) (by kernel_rfl) (fun _ _ _ h => h) (Or.inl ⟨by rfl, fun w hSw => ?hy11⟩) (by assumption) ?rest11
        case hy11 => ((try dsimp only at hSw); go_simp; try with_reducible rfl)
        try simp only [Act.put, List.setIfInBounds_toArray, List.set_cons_zero, List.set_cons_succ]
        refine wpAnyH_take (i := 12) (v := ?v12) rfl (by kernel_rfl) (by kernel_rfl) (by kernel_rfl) (fun _ _ _ h => h) (Or.inl ⟨by rfl, fun w hSw => ?hy12⟩) (by assumption) ?rest12
        case hy12 => ((try dsimp only at hSw); go_simp; try with_reducible rfl)
        try simp only [Act.put, List.setIfInBounds_toArray, List.set_cons_zero, List.set_cons_succ]
        refine wpAnyH_ready (rs := [6]) (by kernel_rfl) (by simp) ?_
        refine AllReadyH.cons rfl (fun K hK => ?_) AllReadyH.nil
        go_simp
        refine (check_p g f HF.out.fit x.f0 x.f1 Ae ne ce xe _ (isFil_below HSw.out (Below.refl _ _).drew) (fun W hm => HCe.out W ((Mod.of_below (Below.refl _ _).drew _).andThen hm (fun k hk => .inl (.inl hk)))) (fun k hk => (HAw.out.s k hk).2)).mono ?_
        rw [HCK.out]
        rintro e w4 ⟨rfl, hS4, hm4⟩
        have HS4 := Lib.hid hS4
        have HM4 := Lib.hid hm4
        have u0 := hm4.cell y0 (fun q => absurd (HA0.out.s _ q).2 (Nat.lt_irrefl _))
        have u1 := hm4.cell y1 (fun q => absurd (HA0.out.s _ q).2 (Nat.lt_irrefl _))
        clear hS4 hm4
        go_wp2_with fail
        refine hK.out _ _ ⟨u0, u1⟩ (fun hHeld6 => ?_)
        clear hK K
        try simp only [Act.put, List.setIfInBounds_toArray, List.set_cons_zero, List.set_cons_succ]
        refine wpAnyH_ready (rs := [13]) (by kernel_rfl) (by simp) ?_
        refine AllReadyH.cons rfl (fun K hK => ?_) AllReadyH.nil
        go_simp
        refine (check_r g' f HF.out.fit HF.out.byt x.f0 x.f1 Ae ne ce xe HXe.out w4 (isFilR_mod (isFilR_below HRw.out (Below.refl _ _).drew) HM4.out (fun k hk hn => HAw.out.d k hn hk)) (fun W hm => HCe.out W (((Mod.of_below (Below.refl _ _).drew _).andThen HM4.out (fun k hk => .inl (.inl hk))).andThen hm (fun k hk => .inl (.inr (.inl hk))))) hle (fun k hk => Nat.lt_of_lt_of_le (HAw.out.r k hk).2 HM4.out.size)).mono ?_
        rw [HCK.out]
        rintro e w5 ⟨rfl, hR5, hm5⟩
        have HFB := Lib.hid (fboth_step (HAw.out.below (Below.refl _ _).drew) HS4.out HM4.out hR5 hm5)
        have HS5 := Lib.hid (isFil_mod (isFil_bound HS4.out) hm5 (fun k hk hn => hk.1.elim (fun q => HAw.out.d k q hn) (fun q => absurd (HAw.out.r k hn).2 (Nat.not_lt.2 q))))
        obtain ⟨vq, hbq, hRq, _⟩ := id hR5
        obtain ⟨A5, c5, rfl⟩ := Kd.R_slice hRq
        have r3 : w5.cell? ⟨g', 3, none⟩ = some (.slice A5 f1.l.length c5) := (blk_cell hbq 3).trans rfl
        have u0' := hm5.cell u0 (fun q => absurd (HA0.out.r _ q).2 (Nat.lt_irrefl _))
        have u1' := hm5.cell u1 (fun q => absurd (HA0.out.r _ q).2 (Nat.lt_irrefl _))
        clear hR5 hm5 hbq hRq
        go_wp2_with fail
        refine hK.out _ _ ⟨u0', u1'⟩ (fun hHeld13 => ?_)
        clear hK K
        try simp only [Act.put, List.setIfInBounds_toArray, List.set_cons_zero, List.set_cons_succ]
        refine wpAnyH_weak (S2 := fun w' => w'.cell? ⟨wr.heap.size, 0, none⟩ = some (.int .i64 x.f0) ∧ w'.cell? ⟨wr.heap.size, 1, none⟩ = some (.int .i64 x.f1) ∧ w'.cell? ⟨g', 3, none⟩ = some (.slice A5 f1.l.length c5)) (fun w h => ⟨h.1, h.2.1⟩) _ _ _ _ ?_
        have hHeld2 : (fun w' : World => w'.cell? ⟨wr.heap.size, 0, none⟩ = some (.int .i64 x.f0) ∧ w'.cell? ⟨wr.heap.size, 1, none⟩ = some (.int .i64 x.f1) ∧ w'.cell? ⟨g', 3, none⟩ = some (.slice A5 f1.l.length c5)) w5 := ⟨u0', u1', r3⟩
        refine wpAnyH_take (i := 14) (v := ?v14) rfl (by kernel_rfl) (by kernel_rfl) (by kernel_rfl) (fun _ _ _ h => h) (Or.inl ⟨by rfl, fun w hSw => ?hy14⟩) (by assumption) ?rest14
        case hy14 => ((try dsimp only at hSw); go_simp; try with_reducible rfl)
        try simp only [Act.put, List.setIfInBounds_toArray, List.set_cons_zero, List.set_cons_succ]
        refine wpAnyH_take (i := 15) (v := ?v15) rfl (by kernel_rfl) (by kernel_rfl) (by kernel_rfl) (fun _ _ _ h => h) (Or.inl ⟨by rfl, fun w hSw => ?hy15⟩) (by assumption) ?rest15
        case hy15 => ((try dsimp only at hSw); go_simp; try with_reducible rfl)
        try simp only [Act.put, List.setIfInBounds_toArray, List.set_cons_zero, List.set_cons_succ]
        refine wpAnyH_take (i := 16) (v := ?v16) rfl (by kernel_rfl) (by kernel_rfl) (by kernel_rfl) (fun _ _ _ h => h) (Or.inl ⟨by rfl, fun w hSw => ?hy16⟩) (by assumption) ?rest16
        case hy16 => ((try dsimp only at hSw); go_simp; try with_reducible rfl)
        try simp only [Act.put, List.setIfInBounds_toArray, List.set_cons_zero, List.set_cons_succ]
        refine wpAnyH_take (i := 18) (v := ?v18) rfl (by kernel_rfl) (by kernel_rfl) (by kernel_rfl) (fun _ _ _ h => h) (Or.inl ⟨by rfl, fun w hSw => ?hy18⟩) (by assumption) ?rest18
        case hy18 => ((try dsimp only at hSw); go_simp; try with_reducible rfl)
        try simp only [Act.put, List.setIfInBounds_toArray, List.set_cons_zero, List.set_cons_succ]
        refine wpAnyH_take (i := 19) (v := ?v19) rfl (by kernel_rfl) (by kernel_rfl) (by kernel_rfl) (fun _ _ _ h => h) (Or.inl ⟨by rfl, fun w hSw => ?hy19⟩) (by assumption) ?rest19
        case hy19 => ((try dsimp only at hSw); go_simp; try with_reducible rfl)
        try simp only [Act.put, List.setIfInBounds_toArray, List.set_cons_zero, List.set_cons_succ]
        refine wpAnyH_take (i := 20) (v := ?v20) rfl (by kernel_rfl) (by kernel_rfl) (by kernel_rfl) (fun _ _ _ h => h) (Or.inl ⟨by rfl, fun w hSw => ?hy20⟩) (by assumption) ?rest20
        case hy20 => ((try dsimp only at hSw); go_simp; try with_reducible rfl)
        try simp only [Act.put, List.setIfInBounds_toArray, List.set_cons_zero, List.set_cons_succ]
        refine wpAnyH_take (i := 21) (v := ?v21) rfl (by kernel_rfl) (by kernel_rfl) (by kernel_rfl) (fun _ _ _ h => h) (Or.inl ⟨by rfl, fun w hSw => ?hy21⟩) (by assumption) ?rest21
        case hy21 => ((try dsimp only at hSw); go_simp; try with_reducible rfl)
        try simp only [Act.put, List.setIfInBounds_toArray, List.set_cons_zero, List.set_cons_succ]
        refine wpAnyH_take (i := 22) (v := ?v22) rfl (by kernel_rfl) (by kernel_rfl) (by kernel_rfl) (fun _ _ _ h => h) (Or.inl ⟨by rfl, fun w hSw => ?hy22⟩) (by assumption) ?rest22
        case hy22 => ((try dsimp only at hSw); go_simp; try with_reducible rfl)
        try simp only [Act.put, List.setIfInBounds_toArray, List.set_cons_zero, List.set_cons_succ]
        refine wpAnyH_ready (rs := [17]) (by kernel_rfl) (by simp) ?_
        refine AllReadyH.cons rfl (fun K hK => ?_) AllReadyH.nil
        go_simp
        refine (len_p g f1 w5 HS5.out).mono ?_
        rintro e w6 ⟨rfl, rfl⟩
        go_wp2_with fail
        refine hK.out _ _ ⟨u0', u1', r3⟩ (fun hHeld17 => ?_)
        clear hK K
        try simp only [Act.put, List.setIfInBounds_toArray, List.set_cons_zero, List.set_cons_succ]
        refine wpAnyH_take (i := 23) (v := ?v23) rfl (by kernel_rfl) (by kernel_rfl) (by kernel_rfl) (fun _ _ _ h => h) (Or.inl ⟨by rfl, fun w hSw => ?hy23⟩) (by assumption) ?rest23
        case hy23 => ((try dsimp only at hSw); go_simp; try with_reducible rfl)
        try simp only [Act.put, List.setIfInBounds_toArray, List.set_cons_zero, List.set_cons_succ]
        refine wpAnyH_take (i := 24) (v := ?v24) rfl (by kernel_rfl) (by kernel_rfl) (by kernel_rfl) (fun _ _ _ h => h) (Or.inl ⟨by rfl, fun w hSw => ?hy24⟩) (by assumption) ?rest24
        case hy24 => ((try dsimp only at hSw); go_simp; try with_reducible rfl)
        try simp only [Act.put, List.setIfInBounds_toArray, List.set_cons_zero, List.set_cons_succ]
        refine wpAnyH_done (by kernel_rfl) ?_ _
        go_wp2_with fail
        go_roundg (n - (k + 1))
        case measure => omega
        case rel => exact ⟨k + 1, by go_num, by omega, by omega, f1, HG1, HFB⟩
end Go.Proofs.Ytcdhgpodoigddaa
