/-
  The law ReplayOnce, walked.
-/
import Derived.Test.YtcdhgpodoigddaaQ15
namespace Go.Proofs.Ytcdhgpodoigddaa
open Go.RowKit Go.Maps Go.Proofs.YtcdhgpodoigddaaW.PrintWords Go.Proofs.YtcdhgpodoigddaaW.PrintLast Go.Proofs.YtcdhgpodoigddaaW.PrintMore
set_option linter.unusedVariables false
set_option linter.unusedSimpArgs false
attribute [local go_sem] max2_max min2_min max_two min_two
/-- The filter lies in blocks of the call's own, none of them the map's. -/
def FilW (w wr : World) (B g : Nat) (f : Fil) : Prop := ∃ ok : Nat → Prop, (∀ j, ok j → w.heap.size ≤ j ∧ j < wr.heap.size ∧ j ≠ B) ∧ IsFil wr ok g f
theorem FilW.below {w wr w1 : World} {B g : Nat} {f : Fil} (h : FilW w wr B g f) (hb : Below wr.heap.size wr w1) : FilW w w1 B g f := by
  obtain ⟨ok, h1, h2⟩ := h
  exact ⟨ok, fun j hj => ⟨(h1 j hj).1, Nat.lt_of_lt_of_le (h1 j hj).2.1 hb.size, (h1 j hj).2.2⟩, isFil_below h2 hb⟩
theorem filW_new {w wr w1 : World} {B g : Nat} {f : Fil} (h : IsFil w1 (fun k => wr.heap.size ≤ k) g f) (h0 : w.heap.size ≤ wr.heap.size) (hB : B < wr.heap.size) : FilW w w1 B g f :=
  ⟨fun k => wr.heap.size ≤ k ∧ k < w1.heap.size, fun j hj => ⟨Nat.le_trans h0 hj.1, hj.2, fun e => by omega⟩, isFil_bound h⟩
theorem FilW.modB {w wr w1 : World} {B g : Nat} {f : Fil} (h : FilW w wr B g f) (hm : Mod (fun j => j = B) wr w1) : FilW w w1 B g f := by
  obtain ⟨ok, h1, h2⟩ := h
  exact ⟨ok, fun j hj => ⟨(h1 j hj).1, Nat.lt_of_lt_of_le (h1 j hj).2.1 hm.size, (h1 j hj).2.2⟩, isFil_mod h2 hm (fun j hj => (h1 j hj).2.2)⟩
theorem C_three (w : World) (a b c : Int) : kB.C (w.alloc (.cells #[.int .u8 a, .int .u8 b, .int .u8 c] 5)) (some ⟨w.heap.size, 0, none⟩) 3 [a, b, c] := by
  have hb := heap_alloc_new w (.cells #[.int .u8 a, .int .u8 b, .int .u8 c] 5)
  refine ⟨rfl, by omega, fun _ => ⟨_, rfl, fun j p hj => ⟨[.int .u8 p], rfl, rfl, fun i u hu => ?_⟩⟩⟩
  have hi : i = 0 := by
    rcases i with _ | i
    · rfl
    · simp at hu
  subst hi
  simp at hu
  subst hu
  rw [add_plain, blk_cell hb]
  match j, hj with
  | 0, hj => simp at hj; subst hj; rfl
  | 1, hj => simp at hj; subst hj; rfl
  | 2, hj => simp at hj; subst hj; rfl
set_option maxHeartbeats 8000000 in
set_option maxRecDepth 100000 in
theorem once_any (a0 b0 : Int) (A : Option Addr) (n cap : Nat) (l : List S33) (w : World) (hC : Kd.C k33 w A n l) (hby : ∀ x ∈ l, ByteL x.f2) :
    Calls Try.prog 4 #[.int .i64 a0, .int .i64 b0, .slice A n cap] w fun e w' => e = .returned (.bool true) ∧ Below w.heap.size w w' := by
  have hbig : n ≤ 9223372036854775807 := hC.2.1
  have HC := Lib.hid hC
  have hby' : ∀ i : Int, ByteL (rd_T33 l i).f2 := fun i => by
    unfold rd_T33
    rw [List.getD_eq_getElem?_getD]
    rcases h : l[i.toNat]? with _ | x
    · exact fun x hx => by simp [z33] at hx
    · exact hby x (List.mem_of_getElem? h)
  have HBY := Lib.hid hby'
  obtain ⟨hW0, hW1⟩ := md_bound a0 20 (by decide) (by decide)
  obtain ⟨W, hW⟩ : ∃ W, wrap64 ((IntKind.u64.wrap a0).tmod 20) = W := ⟨_, rfl⟩
  rw [hW] at hW0 hW1
  clear hC hby hby'
  have hmm := @run_makeMap Try.prog
  go_enter Try.func4, Try.ntmps4
  go_wp2_with fail
  refine (new_fil_p W b0 0 w).mono ?_
  rintro e w1 ⟨g, rfl, hS1, hb1⟩
  have HS1 := Lib.hid hS1
  have HB1 := Lib.hid hb1
  clear hS1 hb1
  go_wp2_with fail
  have hcut : cutT W = W := by unfold cutT; omega
  have HON : Hid (Once W 0 (Fil.new W b0 0) []) := Lib.hid ⟨by unfold Fil.new; exact hcut, fun p hp => by simp at hp, fun p hp => by simp at hp⟩
  have HGO : Hid (Fil.new W b0 0).Good := Lib.hid (good_new _ _ _)
  have HMN := Lib.hid (ownsM_new w1)
  have hal : Below w1.heap.size w1 (w1.alloc (.map #[] 0)) := (Below.refl _ _).alloc (Nat.le_refl _) _
  have HBN : Hid (Below w.heap.size w (w1.alloc (.map #[] 0))) := Lib.hid (HB1.out.trans (hal.mono HB1.out.size))
  have hs1 := HB1.out.size
  have HFN : Hid (FilW w (w1.alloc (.map #[] 0)) w1.heap.size g (Fil.new W b0 0)) := Lib.hid (by
    obtain ⟨ok, h1, h2⟩ : ∃ ok : Nat → Prop, (∀ j, ok j → w.heap.size ≤ j ∧ j < w1.heap.size) ∧ IsFil w1 ok g (Fil.new W b0 0) := ⟨_, fun j hj => hj, isFil_bound HS1.out⟩
    exact ⟨ok, fun j hj => ⟨(h1 j hj).1, by have := (h1 j hj).2; simp; omega, by have := (h1 j hj).2; omega⟩, isFil_below h2 hal⟩)
  clear hcut HS1 HB1 hal hmm
  generalize hBe : w1.heap.size = B at *
  have HWB : Hid (w.heap.size ≤ B) := Lib.hid (by omega)
  have hBn : B < (w1.alloc (.map #[] 0)).heap.size := by rw [← hBe]; simp
  generalize w1.alloc (.map #[] 0) = W1 at *
  clear hBe
  go_loopg [7, 8, 26] n (fun gg s7 s8 s26 wr => ∃ (k : Nat) (N : Int) (g : Nat) (f : Fil) (acc : List (List Int × Int)), s7 = .int .i64 N ∧ s8 = .pointer (some ⟨g, 0, none⟩) ∧ s26 = .int .i64 k ∧ k ≤ n ∧ k ≤ 80 ∧ n - k ≤ gg ∧ 0 ≤ N ∧ N ≤ 5 * k ∧ Hid f.Good ∧ Hid (Once W N f acc) ∧ Hid (FilW w wr B g f) ∧ Hid (OwnsM wr B k acc) ∧ Hid (Below w.heap.size w wr))
  case atStart => exact ⟨0, 0, g, _, [], rfl, rfl, rfl, Nat.zero_le _, by omega, by omega, by omega, by omega, HGO, HON, HFN, HMN, HBN⟩
  case round =>
    obtain ⟨k, N, g, f, acc, rfl, rfl, rfl, hk, hk80, hgg, hN0, hN1, HF, HO, HFW, HM, HB⟩ := hrel
    clear HGO HON HFN HMN HBN
    by_cases hlt : k < n
    rotate_left
    · have hnx : ¬ (k : Int) < (n : Int) := by omega
      go_wp2_with (go_at_call 23; refine (awake_p _).mono ?_; rintro e wz ⟨rfl, hbz⟩)
      go_ret
      exact ⟨rfl, HB.out.trans (hbz.mono HB.out.size)⟩
    · obtain ⟨ad, A2, c2, rfl, x0, x1, x2, x3, l2, g2⟩ := at_T33 HC.out k (by omega) (by omega)
      simp only [Int.toNat_natCast] at x0 x1 x2 x3
      replace x0 := pw_cell_below HB.out x0
      replace x1 := pw_cell_below HB.out x1
      replace x2 := pw_cell_below HB.out x2
      replace x3 := pw_cell_below HB.out x3
      have hk0 : (0 : Int) ≤ (k : Int) := by omega
      have hkn : (k : Int) < (n : Int) := by omega
      have HBX := Lib.hid (HBY.out (k : Int))
      generalize rd_T33 l (k : Int) = x at *
      have HG2 := Lib.hid g2
      clear g2
      by_cases h80 : 80 ≤ k
      · have hd : decide ((80 : Int) ≤ (k : Int)) = true := decide_eq_true (by omega)
        go_wp2_with (go_at_call 23; refine (awake_p _).mono ?_; rintro e wz ⟨rfl, hbz⟩)
        go_ret
        exact ⟨rfl, (HB.out.alloc HB.out.size _).trans (hbz.mono (by have := HB.out.size; simp; omega))⟩
      have hd : decide ((80 : Int) ≤ (k : Int)) = false := decide_eq_false (by omega)
      by_cases h50 : 50 < x.f2.length
      · have hd2 : decide (50 < x.f2.length) = true := decide_eq_true h50
        have hd3 : decide ((50 : Int) < (x.f2.length : Int)) = true := decide_eq_true (by omega)
        go_wp2_with (go_at_call 23; refine (awake_p _).mono ?_; rintro e wz ⟨rfl, hbz⟩)
        go_ret
        exact ⟨rfl, (HB.out.alloc HB.out.size _).trans (hbz.mono (by have := HB.out.size; simp; omega))⟩
      have hd2 : decide (50 < x.f2.length) = false := decide_eq_false h50
      have hd3 : decide ((50 : Int) < (x.f2.length : Int)) = false := decide_eq_false (by omega)
      obtain ⟨hm0, hm1⟩ := md_bound x.f0 6 (by decide) (by decide)
      obtain ⟨d6, hd6⟩ : ∃ d, wrap64 ((IntKind.u64.wrap x.f0).tmod 6) = d := ⟨_, rfl⟩
      rw [hd6] at hm0 hm1
      have HBOX : Hid ((wr.alloc (.cells #[.int .i64 x.f0, .int .i64 x.f1, .slice A2 x.f2.length c2, .bool x.f3] 33)).heap[wr.heap.size]? = some (.cells #[.int .i64 x.f0, .int .i64 x.f1, .slice A2 x.f2.length c2, .bool x.f3] 33 (0, 0))) := Lib.hid (heap_alloc_new wr _)
      have HBA : Hid (Below wr.heap.size wr (wr.alloc (.cells #[.int .i64 x.f0, .int .i64 x.f1, .slice A2 x.f2.length c2, .bool x.f3] 33))) := Lib.hid ((Below.refl _ _).alloc (Nat.le_refl _) _)
      have hsw := HB.out.size
      obtain ⟨Nn, hNd⟩ : ∃ Nn, N + d6 = Nn := ⟨_, rfl⟩
      have hn0 : 0 ≤ Nn := by omega
      have hn1 : Nn ≤ 5 * (k + 1 : Nat) := by omega
      have hn2 : Nn ≤ 400 := by omega
      have hNN : N ≤ Nn := by omega
      rcases hodd : x.f3 with _ | _
      rotate_left
      · rw [hodd] at x3 HBOX HBA
        go_wp2_with fail
        refine (new_fil_p W b0 Nn _).mono ?_
        rintro e w3 ⟨g3, rfl, hS3, hb3⟩
        have HS3 := Lib.hid hS3
        have HB3 := Lib.hid (HBA.out.trans (hb3.mono HBA.out.size))
        clear hS3 hb3
        go_wp2_with fail
        go_roundg (n - (k + 1))
        case measure => omega
        case rel =>
          refine ⟨k + 1, Nn, g3, Fil.new W b0 Nn, acc, rfl, rfl, by go_num, by omega, by omega, by omega, hn0, hn1, Lib.hid (good_new _ _ _), Lib.hid (once_new b0 HO.out hNN hW0 (by omega) hn0 (by omega)), Lib.hid ?_, Lib.hid (ownsM_mono (ownsM_below HM.out HB3.out) (Nat.le_succ k)), Lib.hid (HB.out.trans (HB3.out.mono hsw))⟩
          have hBl : B < wr.heap.size := by obtain ⟨_, D, h2, _⟩ := HM.out; exact h2.lt
          exact filW_new HS3.out (by simp; omega) (by simp; omega)
      · rw [hodd] at x3 HBOX HBA
        obtain ⟨hp0, hp1⟩ := md_bound x.f1 50 (by decide) (by decide)
        obtain ⟨s5, hs5⟩ : ∃ d, wrap64 ((IntKind.u64.wrap x.f1).tmod 50) = d := ⟨_, rfl⟩
        rw [hs5] at hp0 hp1
        obtain ⟨st, hst⟩ : ∃ st, Nn + s5 - 25 = st := ⟨_, rfl⟩
        have ht0 : -25 ≤ st := by omega
        have ht1 : st ≤ 425 := by omega
        have HCA : Hid (kB.C (wr.alloc (.cells #[.int .i64 x.f0, .int .i64 x.f1, .slice A2 x.f2.length c2, .bool false] 33)) A2 x.f2.length x.f2) := Lib.hid (Kd.C_below HG2.out (HB.out.alloc HB.out.size _))
        go_wp2_with fail
        refine (key_any A2 _ c2 x.f2 _ HCA.out).mono ?_
        rintro e w3 ⟨v3, rfl, hR3, hb3⟩
        have HB3 := Lib.hid (HBA.out.trans (hb3.mono HBA.out.size))
        have HBX3 := Lib.hid (blk_below HBOX.out hb3)
        obtain ⟨kb, kc, rfl, hk1, hk2, _⟩ := Kd.R_form hR3 (by rw [keyOf_length]; decide)
        have hRR := (Kd.R_reads' hR3).2.2
        rw [keyOf_length] at hRR
        have HKC := Lib.hid hRR
        have hk1' : wr.heap.size < kb := by simp at hk1; omega
        clear hR3 hb3 hRR hk1
        rw [keyOf_length]
        obtain ⟨okS, hok, hIF⟩ := HFW.out
        have HOK := Lib.hid hok
        have HIF := Lib.hid (isFil_below hIF HB3.out)
        have HBl : Hid (B < wr.heap.size) := Lib.hid (by obtain ⟨_, D, h2, _⟩ := HM.out; exact h2.lt)
        have HKM : Hid (∀ W', Mod okS w3 W' → kB.C W' (some ⟨kb, 0, none⟩) 32 (keyOf x.f2)) := Lib.hid (fun W' hm => C_mod HKC.out hm (fun ad he hn => by
          injection he with he
          have h1 : ad.block = kb := by rw [← he]
          rw [h1] at hn
          have := (HOK.out _ hn).2.1
          omega))
        have hs3 := HB3.out.size
        clear hok hIF
        go_wp2_with fail
        refine (check_p g f HF.out.fit Nn st _ 32 kc (keyOf x.f2) w3 HIF.out HKM.out (fun j hj => Nat.lt_of_lt_of_le (HOK.out j hj).2.1 hs3)).mono ?_
        have hoc := once_check HO.out hNN st (keyOf x.f2)
        have hgc := good_check HF.out Nn st (keyOf x.f2) (keyOf_bytes HBX.out)
        rcases hck : f.check Nn st (keyOf x.f2) with ⟨en, f1⟩
        rw [hck] at hoc hgc
        have HCK := Lib.hid hck
        have HOC := Lib.hid hoc
        have HGC := Lib.hid hgc
        clear hck hoc hgc
        rintro e w4 ⟨rfl, hI4, hm4⟩
        have HFW4 : Hid (FilW w w4 B g f1) := Lib.hid ⟨_, fun j hj => ⟨hj.1.elim (fun q => (HOK.out j q).1) (fun q => by omega), hj.2, hj.1.elim (fun q => (HOK.out j q).2.2) (fun q e => by have := HBl.out; omega)⟩, isFil_bound hI4⟩
        have HM4 : Hid (OwnsM w4 B k acc) := Lib.hid (ownsM_mod (ownsM_below HM.out HB3.out) hm4 (fun q => (HOK.out _ q).2.2 rfl))
        have HB4 : Hid (Below w.heap.size w w4) := Lib.hid ((HB.out.trans (HB3.out.mono hsw)).trans (hm4.below (fun j hj => (HOK.out j hj).1) (by omega)))
        have HBX4 := Lib.hid (hm4.blk HBX3.out (fun q => absurd (HOK.out _ q).2.1 (Nat.lt_irrefl _)))
        have HC4 : Hid (kB.C w4 A2 x.f2.length x.f2) := Lib.hid (Kd.C_below HG2.out HB4.out)
        have hs4 := hm4.size
        have z2 : w4.cell? ⟨wr.heap.size, 2, none⟩ = some (.slice A2 x.f2.length c2) := (blk_cell HBX4.out 2).trans rfl
        clear hI4 hm4
        by_cases hneg : st < 0
        · have HE1 : Hid (en = 1 ∧ f1 = f) := Lib.hid (by
            have h1 : f.check Nn st (keyOf x.f2) = (1, f) := check_bad_eq (by
              have : (st == cutT st) = false := beq_eq_false_iff_ne.2 (by unfold cutT; omega)
              unfold goodB; rw [this]; simp)
            have h2 := HCK.out
            rw [h1] at h2
            injection h2 with h3 h4
            exact ⟨h3.symm, h4.symm⟩)
          have e1 : (en != 1) = false := by rw [HE1.out.1]; rfl
          go_wp2_with fail
          go_roundg (n - (k + 1))
          case measure => omega
          case rel => exact ⟨k + 1, Nn, g, f1, acc, rfl, rfl, by go_num, by omega, by omega, by omega, hn0, hn1, HGC, Lib.hid (HOC.out.2 (by rw [HE1.out.1]; decide)), HFW4, Lib.hid (ownsM_mono HM4.out (Nat.le_succ k)), HB4⟩
        · have hst0 : 0 ≤ st := by omega
          go_wp2_with fail
          refine (key_any A2 _ c2 x.f2 _ HC4.out).mono ?_
          rintro e w5 ⟨v5, rfl, hR5, hb5⟩
          have HB5 := Lib.hid (HB4.out.trans (hb5.mono HB4.out.size))
          have HM5 := Lib.hid (ownsM_below HM4.out hb5)
          have HFW5 := Lib.hid (FilW.below HFW4.out hb5)
          have HQ5 : Hid (kB.Q 5 w5 0 (fun j => w4.heap.size ≤ j) v5 (keyOf x.f2)) := Lib.hid (Kd.Q_of_R (Kd.R_lower hR5 (Nat.zero_le _)))
          obtain ⟨A5, c5, rfl⟩ := Kd.R_slice hR5
          have HS5 := Lib.hid hb5
          clear hR5 hb5
          rw [keyOf_length] at HQ5
          rw [keyOf_length]
          have HQ6 : Hid (kB.Q 5 (w5.alloc (.cells #[.int .u8 (st % 256), .int .u8 (st / 256), .int .u8 (st / 65536)] 5)) 0 (fun j => w4.heap.size ≤ j) (.slice A5 32 c5) (keyOf x.f2)) := Lib.hid (Kd.Q_alloc HQ5.out _)
          have HC3 := Lib.hid (C_three w5 (st % 256) (st / 256) (st / 65536))
          have HKN : Hid (keyOf x.f2 ++ [st % 256, st / 256, st / 65536] = keyNums (keyOf x.f2, st)) := Lib.hid (by
            unfold keyNums
            have e1 : st / 256 % 256 = st / 256 := by omega
            have e2 : st / 65536 % 256 = st / 65536 := by omega
            simp only [e1, e2])
          have HKL : Hid ((keyOf x.f2).length + 3 ≤ 140737488355328) := Lib.hid (by rw [keyOf_length]; decide)
          have HP : Hid (KeyOk (keyOf x.f2, st)) := Lib.hid ⟨keyOf_length _, keyOf_bytes HBX.out, hst0, by simp only; omega⟩
          go_upto_region 18 with (first
            | (at_builtin; refine wp_appB HQ6.out HC3.out HKL.out rfl (.tmp 73) (.tmp 82) rfl rfl rfl ?_; intro v6 w6 hQ6 hg6 _; rw [HKN.out] at hQ6; obtain ⟨A6, c6, rfl, _⟩ := Kd.Q_slice hQ6; have hstr := string_B (c := c6) (Kd.Q_reads' hQ6).2.2; have HG6 := Lib.hid hg6; clear hQ6 hg6))
          have HB46 : Hid (Below w4.heap.size w4 w6) := Lib.hid (((((Mod.of_below HS5.out (fun j => w4.heap.size ≤ j)).alloc _).grown HG6.out (fun j hj => .inl (HQ5.out.1 j hj))).below (fun j hj => hj) (Nat.le_refl _)))
          have HM6 := Lib.hid (ownsM_below HM4.out HB46.out)
          have HFW6 := Lib.hid (FilW.below HFW4.out HB46.out)
          have HB6 := Lib.hid (HB4.out.trans (HB46.out.mono HB4.out.size))
          clear HM5 HFW5 HB5 HQ5 HQ6 HC3 HG6 hstr z2 HS5
          by_cases hen : en = 0
          rotate_left
          · have e0 : (en == 0) = false := beq_eq_false_iff_ne.2 hen
            go_wp2_with fail
            go_roundg (n - (k + 1))
            case measure => omega
            case rel => exact ⟨k + 1, Nn, g, f1, acc, rfl, rfl, by go_num, by omega, by omega, by omega, hn0, hn1, HGC, Lib.hid (HOC.out.2 hen), HFW6, Lib.hid (ownsM_mono HM6.out (Nat.le_succ k)), HB6⟩
          · have e0 : (en == 0) = true := by rw [hen]; rfl
            have HEN := Lib.hid hen
            obtain ⟨hnot, _, hlo, hhi, hon⟩ := HOC.out.1 hen
            have HNOT : Hid ((keyOf x.f2, st) ∉ acc) := Lib.hid hnot
            have HON1 := Lib.hid hon
            obtain ⟨hacc, D, hown, hval⟩ := HM6.out
            have HACC := Lib.hid hacc
            have HVAL := Lib.hid hval
            have HOWN := Lib.hid hown
            have HKEY := Lib.hid (keyOf9 (keyOf x.f2, st) (keyOf_length _))
            have HWF : Hid ((Lit.int .i64 1).wf = true) := Lib.hid (by decide)
            clear hen hnot hon hacc hown hval
            go_upto_region 20 with (first
              | (at_lookup; refine wpList_lookup_own_int _ rfl _ _ 41 rfl 9 3 .i64 keyed9 Try.underlying41 Try.underlying3 (zero3 _) B k D rfl HOWN.out _ _ rfl HKEY.out ?_; intro c hat hwc; obtain rfl : c = 0 := (by have h1 := HVAL.out _ HP.out; rw [hat, if_neg HNOT.out] at h1; injection h1 with h1; injection h1); clear hat hwc)
              | (at_mapUpdate; refine wpList_mapUpdate_own _ rfl _ _ _ 41 rfl 9 3 keyed9 Try.underlying41 _ B k D rfl HOWN.out (by unfold maxLen; omega) _ _ _ rfl rfl HKEY.out _ [] (plainElem_int Try.underlying3 HWF.out) ?_; intro w7 hown7 hg7; have HOWN7 := Lib.hid hown7; have HG7 := Lib.hid hg7; clear hown7 hg7))
            have HD : Hid (IsMap D) := Lib.hid (HOWN.out.isMap)
            have HAT : Hid ((D.put (keyLit (keyOf x.f2, st)) (.lit (.int .i64 1))).atKey (keyLit (keyOf x.f2, st)) (.lit (.int .i64 0)) = .lit (.int .i64 1)) := Lib.hid (atKey_put_same HD.out (by simp [WideAt.IsKeyLit, keyLit]) _ _)
            have dlo : decide (st < Nn - W) = false := decide_eq_false (by omega)
            have dhi : decide (Nn + W < st) = false := decide_eq_false (by omega)
            go_wp2_with (at_lookup; refine wpList_lookup_own_int _ rfl _ _ 41 rfl 9 3 .i64 keyed9 Try.underlying41 Try.underlying3 (zero3 _) B (k + 1) _ rfl HOWN7.out _ _ rfl HKEY.out ?_; intro c hat hwc; obtain rfl : c = 1 := (by rw [HAT.out] at hat; injection hat with h1; injection h1 with _ h1; exact h1.symm); clear hat hwc)
            have HMB : Hid (Mod (fun j => j = B) w6 w7) := Lib.hid ((Mod.refl _ _).grown HG7.out (fun j hj => .inl (by injection hj with hj; exact hj.symm)))
            go_roundg (n - (k + 1))
            case measure => omega
            case rel => exact ⟨k + 1, Nn, g, f1, (keyOf x.f2, st) :: acc, rfl, rfl, by go_num, by omega, by omega, by omega, hn0, hn1, HGC, HON1, Lib.hid (FilW.modB HFW6.out HMB.out), Lib.hid (ownsM_put HACC.out HP.out HD.out HVAL.out HOWN7.out), Lib.hid (HB6.out.trans (HMB.out.below (fun j hj => by rw [hj]; exact HWB.out) HB6.out.size))⟩
end Go.Proofs.Ytcdhgpodoigddaa
