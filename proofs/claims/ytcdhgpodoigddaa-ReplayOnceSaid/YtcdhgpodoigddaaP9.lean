/-
  The reference's Check, walked.
-/
import Derived.Test.YtcdhgpodoigddaaP76
import Derived.Test.YtcdhgpodoigddaaF4
import Derived.Deep.DeepCutAuto
import Derived.Outline
namespace Go.Proofs.Ytcdhgpodoigddaa
open Go.RowKit Go.Proofs.YtcdhgpodoigddaaW.PrintWords Go.Proofs.YtcdhgpodoigddaaW.PrintLast Go.Proofs.YtcdhgpodoigddaaW.PrintMore
set_option linter.unusedVariables false
attribute [local go_sem] max2_max min2_min max_two min_two
def lateSeen (f : Fil) (now : Int) : Msg → Bool := fun x => !oldB now f.win x
theorem isFilR_mono {w : World} {ok ok' : Nat → Prop} {g : Nat} {f : Fil} (h : IsFilR w ok g f) (hk : ∀ k, ok k → ok' k) : IsFilR w ok' g f := by
  obtain ⟨v, hb, hR, hg⟩ := h
  exact ⟨v, hb, Kd.R_mono hR hk, hk g hg⟩
theorem isFilR_mod {w w' : World} {S ok : Nat → Prop} {g : Nat} {f : Fil} (h : IsFilR w ok g f) (hm : Mod S w w') (hk : ∀ k, ok k → ¬ S k) : IsFilR w' ok g f := by
  obtain ⟨v, hb, hR, hg⟩ := h
  exact ⟨v, hm.blk hb (hk g hg), Kd.R_step hR (fun k ho hl => hm.block k hl (hk k ho)), hg⟩
theorem isFilR_below {w w' : World} {ok : Nat → Prop} {g : Nat} {f : Fil} (h : IsFilR w ok g f) (hb : Below w.heap.size w w') : IsFilR w' ok g f := isFilR_mod h (Mod.of_below hb (fun _ => False)) (fun _ _ q => q)
theorem isFilR_bound {w : World} {ok : Nat → Prop} {g : Nat} {f : Fil} (h : IsFilR w ok g f) : IsFilR w (fun k => ok k ∧ k < w.heap.size) g f := by
  obtain ⟨v, hb, hR, hg⟩ := h
  exact ⟨v, hb, Kd.R_mono (Kd.R_bound hR) (fun k hk => ⟨hk.1, hk.2.2.1⟩), hg, blk_lt hb⟩
theorem timeB_true {n : Int} (h : n = cutT n) : timeB n = true := decide_eq_true h
theorem timeB_false {n : Int} (h : n ≠ cutT n) : timeB n = false := decide_eq_false h
theorem time_s (n : Int) (b : Bool) (h : timeB n = b) (w : World) : Calls Try.prog 83 #[.int .i64 n] w fun e w' => e = .returned (.bool b) ∧ w = w' := (time_r n w).mono (fun e w' q => ⟨by rw [q.1, h], q.2⟩)
set_option maxRecDepth 100000 in
set_option maxHeartbeats 1000000 in
theorem checkR_bad {ok : Nat → Prop} (g : Nat) (f : Fil) (now stamp : Int) (A : Option Addr) (n c : Nat) (w : World) (hI : IsFilR w ok g f) (hb : goodB now stamp n = false) :
    Calls Try.prog 21 #[.pointer (some ⟨g, 0, none⟩), .int .i64 now, .int .i64 stamp, .slice A n c] w fun e w' => e = .returned (.int .i64 1) ∧ w = w' := by
  rcases good_cases hb with h | ⟨h1, h2⟩ | ⟨h1, h2, h3⟩
  · have H1 := Lib.hid (timeB_false h)
    clear hb h hI
    go_enter Try.func21, Try.ntmps21
    go_wp2_with (go_at_call 83; refine (time_s now _ H1.out _).mono ?_; rintro e w' ⟨rfl, rfl⟩)
    go_ret
    exact ⟨rfl, rfl⟩
  · have H1 := Lib.hid (timeB_true h1)
    have H2 := Lib.hid (timeB_false h2)
    clear hb h1 h2 hI
    go_enter Try.func21, Try.ntmps21
    go_wp2_with fail
    refine (time_s now _ H1.out _).mono ?_
    rintro e w' ⟨rfl, rfl⟩
    go_wp2_with fail
    refine (time_s stamp _ H2.out _).mono ?_
    rintro e w' ⟨rfl, rfl⟩
    go_wp2_with fail
    go_ret
    exact ⟨rfl, rfl⟩
  · have H1 := Lib.hid (timeB_true h1)
    have H2 := Lib.hid (timeB_true h2)
    have e2 : ((n : Int) != 32) = true := by simpa using (by omega : ¬ (n : Int) = 32)
    clear hb h1 h2 hI
    go_enter Try.func21, Try.ntmps21
    go_wp2_with fail
    refine (time_s now _ H1.out _).mono ?_
    rintro e w' ⟨rfl, rfl⟩
    go_wp2_with fail
    refine (time_s stamp _ H2.out _).mono ?_
    rintro e w' ⟨rfl, rfl⟩
    go_wp2_with fail
    go_ret
    exact ⟨rfl, rfl⟩
theorem seen_K {w : World} {x : Msg} {cs : List Value} (h : kSeen.K w x cs) : cs = [.int .i64 x.st, .string (strOfNums x.e)] := by
  obtain ⟨c0, c1, rfl, h0, h1⟩ := h
  have h0' : c0 = [.int .i64 x.st] := h0
  have h1' : c1 = [.string (strOfNums x.e)] := h1
  rw [h0', h1']
  rfl
theorem seen_at {w : World} {A : Option Addr} {n : Nat} {xs : List Msg} (h : kSeen.C w A n xs) (k : Nat) (hk : k < n) (x : Msg) (hx : xs[k]? = some x) : ∃ ad, A = some ad ∧ w.cell? (ad.add (k * 2)) = some (.int .i64 x.st) ∧ w.cell? ⟨(ad.add (k * 2)).block, (ad.add (k * 2)).off + 1, none⟩ = some (.string (strOfNums x.e)) := by
  obtain ⟨ad, c, e, _, hK, hc0⟩ := Kd.C_get h default (k : Int) (by omega) (by omega)
  rw [List.getD_eq_getElem?_getD, Int.toNat_natCast, hx] at hK
  obtain rfl := seen_K hK
  have hc : ∀ j u, ([.int .i64 x.st, .string (strOfNums x.e)] : List Value)[j]? = some u → w.cell? (ad.add (k * 2 + j)) = some u := hc0
  exact ⟨ad, e, hc 0 _ rfl, by rw [← add_field _ _ 1 (by omega)]; exact hc 1 _ rfl⟩
theorem info129 : (Try.prog.info? 129).map (fun i => (i.zero, i.size, i.bytes)) = some (some (.agg #[.int .i64 0, .string ⟨#[]⟩]), 2, 24) := by kernel_rfl
theorem wp_appS {ops : Array Oper} {rest : List Oper} {o : Oper} {a : Act} {Q : Exit → Act → World → Prop} {W : World} {ok : Nat → Prop} {v : Value} {l : List Msg} (x : Msg) {cs : List Value}
    (HO : kSeen.R 129 W 0 ok v l) (hcs : cs = [.int .i64 x.st, .string (strOfNums x.e)]) (hfresh : ∀ k, W.heap.size ≤ k → ok k) (hl : l.length ≤ 256)
    (hgd : o.guard = none) (s x' : Operand) (ho : o.op = .call { callee := .builtin .append, args := #[s, x'], argTypes := #[28, 28] }) (hs : a.eval s = v) (hx : a.eval x' = .slice (some ⟨W.heap.size, 0, none⟩) 1 1)
    (h : ∀ v1 w1, kSeen.R 129 w1 0 ok v1 (l ++ [x]) → W.grownBy w1 v.ownBlock → wpList Try.prog ops Q rest (a.put o.dst v1) w1) :
    wpList Try.prog ops Q (o :: rest) a (W.alloc (.cells cs.toArray 129)) := by
  subst hcs
  exact Kd.R_append (P := Try.prog) kSeen (w0 := W) 0 hgd s x' 28 129 _ 24 ho Try.underlying28 info129 rfl (by decide) (by decide) v l x _ ok (fun _ => False) hs hx ⟨_, _, rfl, rfl, rfl⟩ (fun _ q => q.elim) hfresh HO (Below.refl _ _) (Nat.zero_le _) (by omega) (fun v1 w1 h1 _ h2 _ => h v1 w1 h1 h2)
theorem step_appS {ops : Array Oper} {o : Oper} {a : Act} {Q : Exit → Act → World → Prop} {Kc : Act → World → Prop} {W : World} {ok : Nat → Prop} {v : Value} {l : List Msg} {x : Msg} {cs : List Value}
    (HO : kSeen.R 129 W 0 ok v l) (hcs : cs = [.int .i64 x.st, .string (strOfNums x.e)]) (hfresh : ∀ k, W.heap.size ≤ k → ok k) (hl : (l.length : Int) < 256)
    (hw : Region.wanted o (yielded ops a.tmps) = true) (s x' : Operand) (ho : o.op = .call { callee := .builtin .append, args := #[s, x'], argTypes := #[28, 28] }) (hs : a.eval s = v) (hx : a.eval x' = .slice (some ⟨W.heap.size, 0, none⟩) 1 1)
    (h : ∀ v1 w1, kSeen.R 129 w1 0 ok v1 (l ++ [x]) → W.grownBy w1 v.ownBlock → Kc (a.put o.dst v1) w1) :
    if Region.wanted o (yielded ops a.tmps) = true then Oper.wp Try.prog o a (W.alloc (.cells cs.toArray 129)).drew Kc Q else Kc (a.put o.dst undef) (W.alloc (.cells cs.toArray 129)).drew := by
  subst hcs
  have HO' : kSeen.R 129 W.drew 0 ok v l := Kd.R_drew HO
  have := Kd.R_append_step (P := Try.prog) (ops := ops) (o := o) (a := a) (Q := Q) (Kc := Kc) kSeen (w0 := W.drew) (W := W.drew) 0 hw s x' 28 129 _ 24 ho Try.underlying28 info129 rfl (by decide) (by decide) v l x _ ok (fun _ => False) hs hx ⟨_, _, rfl, rfl, rfl⟩ (fun _ q => q.elim) hfresh HO' (Below.refl _ _) (Nat.zero_le _) (by omega) (fun v1 w1 h1 _ h2 _ => h v1 w1 h1 ⟨h2.os, h2.tape, h2.output, h2.size, h2.block⟩)
  exact this
theorem setR_l {W : World} {ok : Nat → Prop} {g : Nat} {f : Fil} {v v' : Value} {l : List Msg} (hb : W.heap[g]? = some (.cells #[.int .i64 f.win, .int .i64 f.since, .int .i64 f.most, v] 30 (0, 0))) (hR : kSeen.R 129 W 0 ok v' l) (hg : ok g) :
    IsFilR (W.setCell ⟨g, 3, none⟩ v') ok g { f with l := l } :=
  ⟨v', by have := blk_set hb 3 v'; simpa using this, Kd.R_set hR hb (by intro q hq; simp [kSeen, Kd.iso, Kd.pair, Kd.int, Kd.string, Kd.scalar] at hq; omega) 3 v', hg⟩
theorem take_filter (p : Msg → Bool) (l : List Msg) (k : Nat) (x : Msg) (hx : l[k]? = some x) : (l.take (k + 1)).filter p = (l.take k).filter p ++ if p x then [x] else [] := by
  obtain ⟨hk, rfl⟩ := List.getElem?_eq_some_iff.1 hx
  rw [List.take_succ_eq_append_getElem hk, List.filter_append]
  by_cases h : p l[k] = true <;> simp [h]
set_option maxRecDepth 100000 in
set_option maxHeartbeats 4000000 in
theorem checkR_good {ok : Nat → Prop} (g : Nat) (f : Fil) (hF : f.Fit) (hB : ∀ x ∈ f.l, ByteL x.e) (now stamp : Int) (A : Option Addr) (c : Nat) (xs : List Int) (hxs : ByteL xs) (w : World) (hI : IsFilR w ok g f) (hCM : ∀ W, Mod ok w W → kB.C W A 32 xs) (hc : 32 ≤ c) (hok : ∀ k, ok k → k < w.heap.size) (h1 : now = cutT now) (h2 : stamp = cutT stamp) :
    Calls Try.prog 21 #[.pointer (some ⟨g, 0, none⟩), .int .i64 now, .int .i64 stamp, .slice A 32 c] w fun e w' => e = .returned (.int .i64 (f.check now stamp xs).1) ∧ IsFilR w' (fun k => ok k ∨ w.heap.size ≤ k) g (f.check now stamp xs).2 ∧ Mod ok w w' := by
  have hC := hCM w (Mod.refl _ _)
  have hlen : xs.length = 32 := hC.1
  have HG : Hid (goodB now stamp xs.length = true) := Lib.hid (by unfold goodB; rw [← h1, ← h2, hlen]; simp)
  have HLn := Lib.hid hlen
  have hn0 := cutT_bounds now
  rw [← h1] at hn0
  have hs0 := cutT_bounds stamp
  rw [← h2] at hs0
  obtain ⟨hn0, hn1⟩ := hn0
  obtain ⟨hs0, hs1⟩ := hs0
  have H1 := Lib.hid (timeB_true h1)
  have H2 := Lib.hid (timeB_true h2)
  have HF := Lib.hid hF
  have HBY := Lib.hid hB
  obtain ⟨w0, w1⟩ : 0 ≤ f.win ∧ f.win ≤ 1099511627776 := ⟨hF.win0, hF.win1⟩
  have hfl : (f.l.length : Int) ≤ 256 := hF.len
  have HC := Lib.hid hCM
  have HX := Lib.hid hxs
  have HOK := Lib.hid hok
  have hsub : IntKind.i64.wrap (now - f.win) = now - f.win := IntWalk.i64_in _ (by omega)
  have hadd : IntKind.i64.wrap (now + f.win) = now + f.win := IntWalk.i64_in _ (by omega)
  obtain ⟨v, hb, hR, hg⟩ := hI
  obtain ⟨A1, c1, rfl⟩ := Kd.R_slice hR
  have HRC := Lib.hid (Kd.R_reads' hR).2.2
  have HBK := Lib.hid hb
  have HGK := Lib.hid hg
  have x0 : w.cell? ⟨g, 0, none⟩ = some (.int .i64 f.win) := (blk_cell hb 0).trans rfl
  have x3 : w.cell? ⟨g, 3, none⟩ = some (.slice A1 f.l.length c1) := (blk_cell hb 3).trans rfl
  clear hC hlen h1 h2 hF hB hCM hxs hok hb hR hg
  go_enter Try.func21, Try.ntmps21
  go_wp2_with fail
  refine (time_s now _ H1.out _).mono ?_
  rintro e w' ⟨rfl, rfl⟩
  go_wp2_with fail
  refine (time_s stamp _ H2.out _).mono ?_
  rintro e w' ⟨rfl, rfl⟩
  go_wp2_with fail
  go_loopg [9, 32] f.l.length (fun gg s9 s32 wr => ∃ k : Nat, s32 = .int .i64 k ∧ k ≤ f.l.length ∧ f.l.length - k ≤ gg ∧ Hid (kSeen.R 129 wr 0 (fun j => w.heap.size ≤ j) s9 ((f.l.take k).filter fun x => !oldB now f.win x)) ∧ Hid (Below w.heap.size w wr))
  case atStart => exact ⟨0, rfl, Nat.zero_le _, by omega, Lib.hid (Kd.R_nil _ _ _ _ _), Lib.hid (Below.refl _ _)⟩
  case round =>
    obtain ⟨k, rfl, hk, hgg, HR, HB⟩ := hrel
    by_cases hlt : k < f.l.length
    · obtain ⟨x, hx⟩ : ∃ x, f.l[k]? = some x := ⟨_, List.getElem?_eq_getElem hlt⟩
      obtain ⟨ad, rfl, z0, z1⟩ := seen_at HRC.out k hlt x hx
      have HXX := Lib.hid hx
      have y0 := pw_cell_below HB.out z0
      have y1 := pw_cell_below HB.out z1
      have y3 := pw_cell_below HB.out x0
      obtain ⟨s, hs⟩ : ∃ s, strOfNums x.e = s := ⟨_, rfl⟩
      rw [hs] at y1
      have HS := Lib.hid hs
      obtain ⟨A2, c2, rfl⟩ := Kd.R_slice HR.out
      obtain ⟨lk, hlk⟩ : ∃ lk, ((f.l.take k).filter fun x => !oldB now f.win x) = lk := ⟨_, rfl⟩
      have hlkl : lk.length ≤ 256 := by
        rw [← hlk]
        have h1 := List.length_filter_le (fun x => !oldB now f.win x) (f.l.take k)
        have h2 := List.length_take_le k f.l
        omega
      have HLK := Lib.hid hlk
      rw [hlk] at HR
      have hnx : (k : Int) < (f.l.length : Int) := by omega
      have hks : 0 ≤ (k : Int) := by omega
      clear z0 z1 hx hs
      rw [hlk]
      clear hlk
      go_upto_region 7 with fail
      have hBW : ∀ nq, Below wr.heap.size wr ((wr.alloc (.cells #[.int .i64 x.st, .string s] 129)).drewN nq) := fun nq => pw_below_drewN ((Below.refl _ _).alloc (Nat.le_refl _) _) nq
      have hBX : ∀ nq, ((wr.alloc (.cells #[.int .i64 x.st, .string s] 129)).drewN nq).heap[wr.heap.size]? = some (.cells #[.int .i64 x.st, .string s] 129 (0, 0)) := fun nq => heap_alloc_new wr _
      have HBW := Lib.hid hBW
      have HBX := Lib.hid hBX
      have e3 := fun o => Lib.cell?_alloc_some o y3
      clear hBW hBX
      by_cases ho : now - f.win ≤ x.st
      · have hd : decide (now - f.win ≤ x.st) = true := decide_eq_true ho
        have HK : Hid (oldB now f.win x = false) := Lib.hid (by unfold oldB; exact decide_eq_false (by omega))
        clear ho
        go_quiet (fail)
        have HW := Lib.hid (HBW.out nq)
        have HWX := Lib.hid (HBX.out nq)
        clear HBW HBX
        generalize (wr.alloc (.cells #[.int .i64 x.st, .string s] 129)).drewN nq = W at *
        have b0 : W.cell? ⟨wr.heap.size, 0, none⟩ = some (.int .i64 x.st) := (blk_cell HWX.out 0).trans rfl
        have b1 : W.cell? ⟨wr.heap.size, 1, none⟩ = some (.string s) := (blk_cell HWX.out 1).trans rfl
        have HRW := Lib.hid (Kd.R_below HR.out HW.out)
        have HFR : Hid (∀ k, W.heap.size ≤ k → w.heap.size ≤ k) := Lib.hid (fun q hq => Nat.le_trans (Nat.le_trans HB.out.size HW.out.size) hq)
        go_wp2_with (at_builtin; refine wp_appS x HRW.out (by rw [HS.out]) HFR.out hlkl rfl (.tmp 45) (.tmp 47) rfl rfl rfl ?_; intro v1 w1 hR1 hg1; have HR1 := Lib.hid hR1; have HG1 := Lib.hid hg1; clear hR1 hg1)
        go_roundg (f.l.length - (k + 1))
        case measure => omega
        case rel =>
          refine ⟨k + 1, by go_num, by omega, by omega, ?_, ?_⟩
          · rw [take_filter _ f.l k x HXX.out, HK.out, HLK.out]; exact HR1
          · exact Lib.hid ((HB.out.trans (HW.out.mono HB.out.size)).grown HG1.out (Nat.le_trans HB.out.size HW.out.size) (fun q hq => HRW.out.1 q hq))
      · have hd : decide (now - f.win ≤ x.st) = false := decide_eq_false ho
        have HK : Hid (oldB now f.win x = true) := Lib.hid (by unfold oldB; exact decide_eq_true (by omega))
        clear ho
        go_quiet (fail)
        have HW := Lib.hid (HBW.out nq)
        clear HBW HBX
        generalize (wr.alloc (.cells #[.int .i64 x.st, .string s] 129)).drewN nq = W at *
        go_wp2_with fail
        go_roundg (f.l.length - (k + 1))
        case measure => omega
        case rel =>
          refine ⟨k + 1, by go_num, by omega, by omega, ?_, ?_⟩
          · rw [take_filter _ f.l k x HXX.out, HK.out, HLK.out]
            have := Kd.R_below HR.out HW.out
            simpa using Lib.hid this
          · exact Lib.hid (HB.out.trans (HW.out.mono HB.out.size))
    · have hnx : ¬ (k : Int) < (f.l.length : Int) := by omega
      have HY : Hid (((f.l.take k).filter fun x => !oldB now f.win x) = f.young now) := Lib.hid (by rw [List.take_of_length_le (by omega)]; rfl)
      rw [HY.out] at HR
      have HYL : Hid (∀ x ∈ f.young now, ByteL x.e) := Lib.hid (fun x hx => HBY.out x (List.mem_filter.1 hx).1)
      have hyl : (f.young now).length ≤ 256 := by
        have h1 := List.length_filter_le (fun x => !oldB now f.win x) f.l
        have : (f.young now).length ≤ f.l.length := h1
        omega
      obtain ⟨A2, c2, rfl⟩ := Kd.R_slice HR.out
      have hz := blk_below HBK.out HB.out
      have HZ := Lib.hid hz
      have fz := blk_frozen hz 3
      have cz : wr.cell? ⟨g, 3, none⟩ = some (.slice A1 f.l.length c1) := (blk_cell hz 3).trans rfl
      clear hz
      clear HY
      go_upto_region 11 with fail
      have HI1 : Hid (IsFilR (wr.setCell ⟨g, 3, none⟩ (.slice A2 (f.young now).length c2)) (fun k => ok k ∨ w.heap.size ≤ k) g { f with l := f.young now }) := Lib.hid (setR_l HZ.out (Kd.R_mono HR.out (fun q hq => .inr hq)) (.inl HGK.out))
      have HM1 : Hid (Mod ok w (wr.setCell ⟨g, 3, none⟩ (.slice A2 (f.young now).length c2))) := Lib.hid ((Mod.of_below HB.out ok).setCell (.inl HGK.out) _)
      clear HR HB HZ fz cz x0 x3
      generalize wr.setCell ⟨g, 3, none⟩ (.slice A2 (f.young now).length c2) = W at *
      have HZ1 := HI1
      obtain ⟨v', hb, hR, hg⟩ := HZ1.out
      obtain ⟨A3, c3, rfl⟩ := Kd.R_slice hR
      have HC2 := Lib.hid (Kd.R_reads' hR).2.2
      have y0 : W.cell? ⟨g, 0, none⟩ = some (.int .i64 f.win) := (blk_cell hb 0).trans rfl
      have y1 : W.cell? ⟨g, 1, none⟩ = some (.int .i64 f.since) := (blk_cell hb 1).trans rfl
      have y3 : W.cell? ⟨g, 3, none⟩ = some (.slice A3 (f.young now).length c3) := (blk_cell hb 3).trans rfl
      have ym : W.cell? ⟨g, 2, none⟩ = some (.int .i64 f.most) := (blk_cell hb 2).trans rfl
      clear hb hR hg
      rcases hl : lateB f now stamp with _ | _
      rotate_left
      · have HCk : Hid (f.check now stamp xs = (8, { f with l := f.young now })) := Lib.hid (by unfold Fil.check; rw [HG.out, hl]; rfl)
        unfold lateB at hl
        by_cases ha : stamp < now - f.win
        · clear hl
          have d1 : decide (stamp < now - f.win) = true := decide_eq_true ha
          go_wp2_with fail
          go_ret
          rw [HCk.out]
          exact ⟨rfl, HI1.out, HM1.out⟩
        · have d1 : decide (stamp < now - f.win) = false := decide_eq_false ha
          by_cases hb : now + f.win < stamp
          · clear hl
            have d2 : decide (now + f.win < stamp) = true := decide_eq_true hb
            go_wp2_with fail
            go_ret
            rw [HCk.out]
            exact ⟨rfl, HI1.out, HM1.out⟩
          · have d2 : decide (now + f.win < stamp) = false := decide_eq_false hb
            have hc3 : stamp ≤ f.since := by rw [d1, d2] at hl; simpa using hl
            have d3 : decide (stamp ≤ f.since) = true := decide_eq_true hc3
            clear hl
            go_wp2_with fail
            go_ret
            rw [HCk.out]
            exact ⟨rfl, HI1.out, HM1.out⟩
      · have HL := Lib.hid hl
        have ha : ¬ stamp < now - f.win := fun q => by unfold lateB at hl; rw [decide_eq_true q] at hl; simp at hl
        have hb : ¬ now + f.win < stamp := fun q => by unfold lateB at hl; rw [decide_eq_true q] at hl; simp at hl
        have hc3 : ¬ stamp ≤ f.since := fun q => by unfold lateB at hl; rw [decide_eq_true q] at hl; simp at hl
        have d1 : decide (stamp < now - f.win) = false := decide_eq_false ha
        have d2 : decide (now + f.win < stamp) = false := decide_eq_false hb
        have d3 : decide (stamp ≤ f.since) = false := decide_eq_false hc3
        clear hl
        go_wp2_with fail
        go_loopg [85] (f.young now).length (fun gg s85 wr => ∃ j : Nat, s85 = .int .i64 j ∧ j ≤ (f.young now).length ∧ (f.young now).length - j ≤ gg ∧ Hid (Below W.heap.size W wr) ∧ Hid (∀ x ∈ (f.young now).take j, (x.e == xs) = false))
        case atStart => exact ⟨0, rfl, Nat.zero_le _, by omega, Lib.hid (Below.refl _ _), Lib.hid (fun x hx => by simp at hx)⟩
        case round =>
          obtain ⟨j, rfl, hj, hgj, HB2, HNO⟩ := hrel
          by_cases hlj : j < (f.young now).length
          · obtain ⟨x, hx⟩ : ∃ x, (f.young now)[j]? = some x := ⟨_, List.getElem?_eq_getElem hlj⟩
            obtain ⟨ad, rfl, z0, z1⟩ := seen_at HC2.out j hlj x hx
            have HXX := Lib.hid hx
            have q0 := pw_cell_below HB2.out z0
            have q1 := pw_cell_below HB2.out z1
            have hBx := HYL.out x (List.mem_of_getElem? hx)
            have hse := str_eq x.e xs hBx HX.out
            have hcv : ∀ o, Sem.run Try.prog (convert 31 9 (.slice A 32 c)) (wr.alloc o) = .ok (.string (strOfNums xs)) (wr.alloc o) := fun o => string_B (Kd.C_below (HC.out W HM1.out) ((HB2.out.alloc HB2.out.size o)))
            generalize strOfNums x.e = sx at q1 hse
            generalize strOfNums xs = se at hse hcv
            have hnx2 : (j : Int) < ((f.young now).length : Int) := by omega
            have hks : 0 ≤ (j : Int) := by omega
            clear z0 z1 hx hBx
            rcases hq : (x.e == xs) with _ | _
            · rw [hq] at hse
              have HQ := Lib.hid hq
              clear hq
              go_wp2_with fail
              go_roundg ((f.young now).length - (j + 1))
              case measure => omega
              case rel =>
                refine ⟨j + 1, by go_num, by omega, by omega, Lib.hid (HB2.out.alloc HB2.out.size _), Lib.hid (fun y hy => ?_)⟩
                obtain ⟨hjl, hjx⟩ := List.getElem?_eq_some_iff.1 HXX.out
                rw [List.take_succ_eq_append_getElem hjl, List.mem_append] at hy
                rcases hy with hy | hy
                · exact HNO.out y hy
                · rw [List.mem_singleton.1 hy, hjx]; exact HQ.out
            · have HCk : Hid (f.check now stamp xs = (8, { f with l := f.young now })) := Lib.hid (by
                have : ((f.young now).any fun x => x.e == xs) = true := List.any_eq_true.2 ⟨x, List.mem_of_getElem? HXX.out, hq⟩
                unfold Fil.check; rw [HG.out, HL.out, this]; rfl)
              rw [hq] at hse
              clear hq
              go_wp2_with fail
              go_ret
              rw [HCk.out]
              exact ⟨rfl, isFilR_below HI1.out (HB2.out.alloc HB2.out.size _), HM1.out.ofBelow (HB2.out.alloc HB2.out.size _)⟩
          · have hnx2 : ¬ (j : Int) < ((f.young now).length : Int) := by omega
            have HAN : Hid (((f.young now).any fun x => x.e == xs) = false) := Lib.hid (by
              have h1 := HNO.out
              rw [List.take_of_length_le (by omega)] at h1
              exact List.any_eq_false.2 (fun x hx => by rw [h1 x hx]; simp))
            go_upto_region 19 with fail
            have q0 := pw_cell_below HB2.out y3
            have q2 := pw_cell_below HB2.out ym
            by_cases hm : f.most ≤ ((f.young now).length : Int)
            · have HCk : Hid (f.check now stamp xs = (7, { f with l := f.young now })) := Lib.hid (by unfold Fil.check; rw [HG.out, HL.out, HAN.out, if_pos hm]; rfl)
              have hd : decide (f.most ≤ ((f.young now).length : Int)) = true := decide_eq_true hm
              go_quiet (fail)
              go_wp2_with fail
              go_ret
              rw [HCk.out]
              exact ⟨rfl, isFilR_below HI1.out (pw_below_drewN HB2.out _), HM1.out.ofBelow (pw_below_drewN HB2.out _)⟩
            · have HCk : Hid (f.check now stamp xs = (0, { f with l := f.young now ++ [⟨xs, stamp, HLn.out⟩] })) := Lib.hid (by unfold Fil.check; rw [HG.out, HL.out, HAN.out, if_neg hm, dif_pos HLn.out]; rfl)
              have hd : decide (f.most ≤ ((f.young now).length : Int)) = false := decide_eq_false hm
              have hyl2 : ((f.young now).length : Int) < 256 := by have := HF.out.most1; omega
              go_quiet (fail)
              go_upto_region 21 with fail
              have HIW : Hid (IsFilR (wr.drewN nq) (fun k => ok k ∨ w.heap.size ≤ k) g { f with l := f.young now }) := Lib.hid (isFilR_below HI1.out (pw_below_drewN HB2.out _))
              have HMW : Hid (Mod ok w (wr.drewN nq)) := Lib.hid (HM1.out.ofBelow (pw_below_drewN HB2.out _))
              have hcv : Sem.run Try.prog (convert 31 9 (.slice A 32 c)) (wr.drewN nq) = .ok (.string (strOfNums xs)) (wr.drewN nq) := string_B (Kd.C_below (HC.out W HM1.out) (pw_below_drewN HB2.out _))
              have hcv2 : Sem.run Try.prog (convert 31 9 (.slice A 32 c)) (wr.drewN nq).drew = .ok (.string (strOfNums xs)) (wr.drewN nq).drew := string_B (Kd.C_below (HC.out W HM1.out) (pw_below_drewN HB2.out _).drew)
              clear HI1 HM1 HB2 HZ1 HC2 q0 q2 y0 y1 y3 ym HNO
              generalize wr.drewN nq = W2 at *
              obtain ⟨v2, hb, hR, hg⟩ := HIW.out
              obtain ⟨A4, c4, rfl⟩ := Kd.R_slice hR
              have x3 : W2.cell? ⟨g, 3, none⟩ = some (.slice A4 (f.young now).length c4) := (blk_cell hb 3).trans rfl
              have n3 := fun o => Lib.cell?_alloc_some o x3
              have HB := Lib.hid hb
              have HRW := Lib.hid hR
              have HNE : Hid (some g ≠ (Value.slice A4 (f.young now).length c4).ownBlock) := Lib.hid (Kd.R_ne hR hb (by decide))
              have HFR : Hid (∀ k, W2.heap.size ≤ k → ok k ∨ w.heap.size ≤ k) := Lib.hid (fun k hk => .inr (Nat.le_trans HMW.out.size hk))
              obtain ⟨se, hse⟩ : ∃ se, strOfNums xs = se := ⟨_, rfl⟩
              have HSE : Hid ([Value.int .i64 stamp, .string se] = [.int .i64 stamp, .string (strOfNums xs)]) := Lib.hid (by rw [hse])
              rw [hse] at hcv hcv2
              clear hb hR hg hse
              go_region_law ((first
                | (refine step_appS (x := ⟨xs, stamp, HLn.out⟩) HRW.out HSE.out HFR.out hyl2 (by rfl) _ _ (by rfl) (by rfl) (by simp [Act.eval]) ?_; intro v1 w6 hR6 hG6; obtain ⟨A3, c3, rfl⟩ := Kd.R_slice hR6; have z6 := blk_grown HB.out hG6 HNE.out; have HR6 := Lib.hid hR6; have HG6 := Lib.hid hG6; have HZ6 := Lib.hid z6; have y6 := blk_frozen z6 3; have y7 := (blk_cell z6 3).trans rfl; clear hR6 hG6 z6)))
              all_goals go_wp2_with fail
              all_goals go_ret
              all_goals rw [HCk.out]
              all_goals exact ⟨rfl, setR_l (f := { f with l := f.young now }) HZ6.out (by have := HR6.out; rw [List.length_append] at this; exact this) (.inl HGK.out), (HMW.out.grown HG6.out (fun k hk => HRW.out.1 k hk)).setCell (.inl HGK.out) _⟩
end Go.Proofs.Ytcdhgpodoigddaa
