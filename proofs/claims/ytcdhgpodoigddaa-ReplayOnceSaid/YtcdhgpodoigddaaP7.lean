/-
  slices.DeleteFunc at messages, walked.
-/
import Derived.Test.YtcdhgpodoigddaaP6
import Derived.Shelf.SlicesE.DeleteFunc
import Derived.Outline
namespace Go.Proofs.Ytcdhgpodoigddaa
open Go.RowKit Go.Proofs.YtcdhgpodoigddaaW.PrintWords Go.Lib
set_option linter.unusedVariables false
section
variable {P : Program} {ops : Array Oper} {rest : List Oper} {op : Oper} {a : Act} {Q : Exit → Act → World → Prop}
/-- A value of so many cells goes into a block that was just laid for it. -/
theorem box_store (W0 : World) {cs : Array Value} {ty' : TypeId} (ty : TypeId) (hN : op.dst = none) (hgd : op.guard = none) (x y : Operand) (ho : op.op = .store ty x y) (cl : List Value)
    (hx : a.eval x = .pointer (some ⟨W0.heap.size, 0, none⟩)) (hy : a.eval y = .agg cl.toArray) (hl : cl.length = cs.size) (hi : (P.info? ty).map (·.size) = some cl.length) (h1 : ∀ v ∈ cl, v.oneCell' = true)
    (h : ∀ w1, Below W0.heap.size W0 w1 → w1.rangeAt W0.heap.size 0 cl → W0.heap.size < w1.heap.size → wpList P ops Q rest a w1) : wpList P ops Q (op :: rest) a (W0.alloc (.cells cs ty')) := by
  have hb : (W0.alloc (.cells cs ty')).heap[W0.heap.size]? = some (.cells cs ty' (0, 0)) := heap_alloc_new W0 _
  have ht : (W0.alloc (.cells cs ty')).there W0.heap.size 0 cl.length := fun j hj => ⟨by rw [blk_cell hb]; simp; omega, blk_frozen hb _⟩
  refine wpList_store_mid hgd ty x y ho W0.heap.size 0 cl.toArray hx hy (by simpa using ht) (by simpa using hi) (all_oneCell_toArray h1) ?_
  rw [hN]
  show wpList P ops Q rest a _
  refine h _ ?_ ?_ ?_
  · obtain ⟨s1, s2, s3, s4⟩ := setCells_same W0.heap.size cl.toArray.toList 0 (W0.alloc (.cells cs ty'))
    refine ((Below.refl _ W0).alloc (Nat.le_refl _) (.cells cs ty')).trans ⟨s1, s2, s3, by rw [s4]; exact Nat.le_refl _, fun k hk => setCells_far _ _ k (by omega)⟩
  · have := World.rangeAt_setCells_same (W0.alloc (.cells cs ty')) W0.heap.size 0 cl ht
    simpa using this
  · obtain ⟨s1, s2, s3, s4⟩ := setCells_same W0.heap.size cl.toArray.toList 0 (W0.alloc (.cells cs ty'))
    rw [s4]
    simp
/-- clear(s[i:]), s a row of one's own: the first i elements stay. -/
theorem clear_law {α : Type} (d : Kd α) {W : World} {base e g n cap cc : Nat} {ok : Nat → Prop} {xs : List α} (i : Nat) (hi : i < n) (hgd : op.guard = none) (s : Operand) (t : TypeId)
    (ho : op.op = .call { callee := .builtin .clear, args := #[s], argTypes := #[t] }) (ht : P.underlying t = some (.slice e)) (z : Value) (hv : ∀ w, (zeroValue e).run P w = .ok z w) (hz : z.cells.size = d.sz) (h1 : ∀ u ∈ z.cells.toList, u.oneCell' = true) (hk : 0 < d.sz)
    (hs : a.eval s = .slice (some ⟨g, i * d.sz, none⟩) (n - i) cc) (HO : d.R e W base ok (.slice (some ⟨g, 0, none⟩) n cap) xs)
    (h : ∀ w1, d.R e w1 base ok (.slice (some ⟨g, 0, none⟩) i cap) (xs.take i) → W.grownBy w1 (some g) → wpList P ops Q rest (a.put op.dst (.tuple #[])) w1) : wpList P ops Q (op :: rest) a W := by
  obtain ⟨inner, hown⟩ := Kd.R_own HO
  have hmul : i * d.sz + (n - i) * d.sz = n * d.sz := by rw [← Nat.add_mul]; congr 1; omega
  obtain ⟨cur, hh, hcs⟩ : ∃ cur : Array Value, W.heap[g]? = some (.cells cur e (0, 0)) ∧ n * d.sz ≤ cur.size := by
    rcases hown.2 with ⟨hv, _⟩ | ⟨g', cap', cur, hv, hbg, hh, hnc, hcm, hcs, _⟩
    · cases hv
    injection hv with ha hn hc
    injection ha with ha
    injection ha with hg'
    subst hg'; subst hc
    exact ⟨cur, hh, by rw [hcs]; exact Nat.mul_le_mul_right _ (by omega)⟩
  obtain ⟨seg, hl, hr⟩ := run_clear_row (P := P) W t e op.type z d.sz ht hv hz h1 hk g (i * d.sz) (n - i) cc (by omega)
    (fun j hj => by rw [blk_cell hh]; simp; omega) (fun j hj => blk_frozen hh _)
  obtain ⟨hR, hg⟩ := R_cleared HO i (Nat.le_of_lt hi) seg hl
  refine wpList_plain hgd fun K hK => ?_
  unfold Oper.wp execOp
  simp only [ho, resolve, invoke, builtin, Sem.run_bind, Sem.run_pure, Result.andThen_ok, List.map_toArray, List.map_cons, List.map_nil, hs, hr]
  exact hK _ _ (h _ hR hg)
end
theorem PredB.weak {g : Nat} {lb : Array Value} {p : Msg → Bool} {S : Nat → Prop} {w : World} (h : PredB g lb p S w) : PredB g lb p (fun _ => False) w := fun W x hm => h W x (hm.mono (fun _ q => q.elim))
theorem zero124 : ∃ z : Value, (∀ w, (zeroValue 124).run Try.prog w = .ok z w) ∧ z.cells.size = 33 ∧ ∀ u ∈ z.cells.toList, u.oneCell' = true := ⟨_, Try.zeroValue124, rfl, by decide⟩
theorem find_first (p : Msg → Bool) (zs : List Msg) : (Lib.idxBy (fun _ y => p y) zs default = -1 ∧ ∀ x ∈ zs, p x = false) ∨ ∃ k, ∃ h : k < zs.length, Lib.idxBy (fun _ y => p y) zs default = (k : Int) ∧ p zs[k] = true ∧ ∀ x ∈ zs.take k, p x = false := by
  rcases idxByFrom_spec (fun _ y => p y) default zs 0 with ⟨e1, hall⟩ | ⟨k, hk, e1, ht, hall⟩
  · refine .inl ⟨e1, fun x hx => ?_⟩
    obtain ⟨j, hj, rfl⟩ := List.mem_iff_getElem.1 hx
    have := hall j hj
    rwa [getElem!_pos zs j hj] at this
  · refine .inr ⟨k, hk, by unfold Lib.idxBy; rw [e1]; simp, by rwa [getElem!_pos zs k hk] at ht, fun x hx => ?_⟩
    obtain ⟨j, hj, rfl⟩ := List.mem_iff_getElem.1 hx
    have hj' : j < k := by rw [List.length_take] at hj; omega
    have := hall j hj'
    rw [getElem!_pos zs j (by omega)] at this
    rwa [List.getElem_take]
theorem row_at {W : World} {ok : Nat → Prop} {b n c : Nat} {dk : List Msg} (h : kMsg.R 124 W 0 ok (.slice (some ⟨b, 0, none⟩) n c) dk) (j : Nat) (hj : j < n) (x : Msg) (hx : dk[j]? = some x) : W.rangeAt b (j * 33) (encM x) := by
  obtain ⟨cs, hl, hM, hc, _⟩ := Kd.R_elem h default (j : Int) (by omega) (by omega)
  have hM' : cs = encM (dk.getD (j : Int).toNat default) := hM
  rw [List.getD_eq_getElem?_getD, Int.toNat_natCast, hx] at hM'
  subst hM'
  exact fun i v hv => hc i v hv
set_option maxHeartbeats 4000000 in
set_option maxRecDepth 100000 in
theorem delete_row (p : Msg → Bool) (g : Nat) (lb : Array Value) (eg : ∀ args w, (callFunc g args).run Try.prog w = .ok (.enter g args) w) (b n c : Nat) (zs : List Msg) (ok : Nat → Prop) (w : World)
    (hp : PredB g lb p (fun k => k = b) w) (HR : kMsg.R 124 w 0 ok (.slice (some ⟨b, 0, none⟩) n c) zs) :
    Calls Try.prog 79 #[.slice (some ⟨b, 0, none⟩) n c, .func (.func g) #[] lb] w fun e w' => ∃ m, e = .returned (.slice (some ⟨b, 0, none⟩) m c) ∧ kMsg.R 124 w' 0 ok (.slice (some ⟨b, 0, none⟩) m c) (zs.filter fun x => !p x) ∧ Mod (fun k => k = b) w w' := by
  obtain ⟨hn, hnc, hC⟩ := Kd.R_reads' HR
  have hbig : n ≤ 9223372036854775807 := by rw [hn]; exact hC.2.1
  have hI := index_any p g lb eg b n c zs w hp.weak (hn ▸ hC)
  rcases find_first p zs with ⟨e1, hall⟩ | ⟨k0, hk0, e1, ht, hall⟩
  · rw [e1] at hI
    have HI := Lib.hid hI
    have hf : (zs.filter fun x => !p x) = zs := List.filter_eq_self.2 (fun x hx => by rw [hall x hx]; rfl)
    rw [hf]
    have HRR := Lib.hid HR
    clear hI hf hall e1 HR hC hn hp hnc
    go_enter Try.func79, Try.ntmps79
    go_wp2_with (go_at_call 117; refine HI.out.mono ?_; rintro e w' ⟨rfl, hb'⟩)
    go_ret
    exact ⟨n, rfl, Kd.R_below HRR.out hb', Mod.of_below hb' _⟩
  · rw [e1] at hI
    have HI := Lib.hid hI
    have HK : Hid (KeepInv (fun x => !p x) zs (k0 + 1) k0 zs) := Lib.hid (KeepInv.start hk0 (fun x hx => by show (!p x) = true; rw [hall x hx]; rfl) (by show (!p zs[k0]) = false; rw [ht]; rfl))
    have hne1 : ((k0 : Int) == -1) = false := beq_eq_false_iff_ne.2 (by omega)
    have hkn : k0 < n := by omega
    have HRR := Lib.hid HR
    have HP := Lib.hid hp
    have HN := Lib.hid hn
    clear hI hall e1 HR hC hn hp ht hk0
    go_enter Try.func79, Try.ntmps79
    go_wp2_with (go_at_call 117; refine HI.out.mono ?_; rintro e w' ⟨rfl, hb'⟩)
    have HR1 := Lib.hid (Kd.R_below HRR.out hb')
    have HM1 := Lib.hid (Mod.of_below hb' (fun k => k = b))
    clear HRR HI
    go_loopg [5, 6] n (fun gg s5 s6 wr => ∃ (i j : Nat) (dk : List Msg), s5 = .int .i64 i ∧ s6 = .int .i64 j ∧ j ≤ n ∧ i < j ∧ n - j ≤ gg ∧ Hid (KeepInv (fun x => !p x) zs j i dk) ∧ Hid (kMsg.R 124 wr 0 ok (.slice (some ⟨b, 0, none⟩) n c) dk) ∧ Hid (Mod (fun k => k = b) w wr))
    case atStart => exact ⟨k0, k0 + 1, zs, rfl, by go_num, by omega, by omega, by omega, HK, HR1, HM1⟩
    case round =>
      obtain ⟨i, j, dk, rfl, rfl, hjn, hij, hgg, HI, HR2, HM2⟩ := hrel
      clear HR1 HM1 HK hb'
      by_cases hlt : j < n
      · have hltz : (j : Int) < (n : Int) := by omega
        have hjz : j < zs.length := by rw [← HN.out]; exact hlt
        obtain ⟨x, hx⟩ : ∃ x, zs[j]? = some x := ⟨_, List.getElem?_eq_getElem hjz⟩
        have HX := Lib.hid hx
        have HL := Lib.hid (row_at HR2.out j hlt x ((HI.out.at_ hjz).trans hx))
        have HJ := Lib.hid hjz
        clear hx hjz
        have HS : Hid ((Try.prog.info? 124).map (·.size) = some (encM x).length) := Lib.hid (by rw [encM_length]; exact size124)
        go_wp2_with (first
          | (refine wpList_load_mid rfl 124 _ rfl b (j * 33) rfl (encM x) _ HL.out Try.underlying124 rfl HS.out ?_)
          | (refine box_store wr 124 rfl rfl _ _ rfl (encM x) rfl rfl (encM_length x) HS.out (encM_one x) ?_; intro w1 hb1 hr1 hs1; have HB1 := Lib.hid hb1; have HR1 := Lib.hid hr1; clear hb1 hr1)
          | (refine wpList_load_mid rfl 124 _ rfl wr.heap.size 0 rfl (encM x) _ HR1.out Try.underlying124 rfl HS.out ?_))
        have HM3 := Lib.hid (HM2.out.ofBelow HB1.out)
        refine (HP.out w1 x HM3.out).mono ?_
        have HR3 := Lib.hid (Kd.R_below HR2.out HB1.out)
        cases hq : p x with
        | true =>
          rintro e w2 ⟨rfl, hb2⟩
          have HB2 := Lib.hid hb2
          have HQ := Lib.hid hq
          clear hb2 hq
          go_wp2_with fail
          go_roundg (n - (j + 1))
          case measure => omega
          case rel => exact ⟨i, j + 1, dk, rfl, by go_num, by omega, by omega, by omega, Lib.hid (HI.out.skip HJ.out HX.out (by rw [HQ.out]; rfl)), Lib.hid (Kd.R_below HR3.out HB2.out), Lib.hid (HM3.out.ofBelow HB2.out)⟩
        | false =>
          rintro e w2 ⟨rfl, hb2⟩
          have HB2 := Lib.hid hb2
          have HQ := Lib.hid hq
          have HR4 := Lib.hid (Kd.R_below HR3.out HB2.out)
          have HM4 := Lib.hid (HM3.out.ofBelow HB2.out)
          have HL2 : Hid (w2.rangeAt wr.heap.size 0 (encM x)) := Lib.hid (fun q v hv => pw_cell_below HB2.out (HR1.out q v hv))
          have hin : i < n := by omega
          have hiz : (i : Int) < (n : Int) := by omega
          obtain ⟨cs, hcl, _, hcc, _⟩ := Kd.R_elem HR4.out default (i : Int) (by omega) hiz
          have HCL := Lib.hid hcl
          have HCC := Lib.hid hcc
          have HMM : Hid (kMsg.M w2 0 (fun _ => False) x (cs.take 0 ++ encM x ++ cs.drop (0 + (encM x).length))) := Lib.hid (by
            have hcl' : cs.length = 33 := hcl
            rw [List.take_zero, List.nil_append, Nat.zero_add, encM_length, ← hcl', List.drop_length, List.append_nil]; rfl)
          have HB0 : Hid (Below 0 w w2) := Lib.hid (HM4.out.below (fun _ _ => Nat.zero_le _) (Nat.zero_le _))
          clear hb2 hq hcl hcc
          go_wp2_with (first
            | (refine wpList_load_mid rfl 124 _ rfl wr.heap.size 0 rfl (encM x) _ HL2.out Try.underlying124 rfl HS.out ?_)
            | (refine Kd.R_store (P := Try.prog) kMsg (w0 := w) 0 rfl rfl 124 _ _ rfl 124 (g := b) (n := n) (cap := c) (o' := i * 33) (i : Int) 0 dk x (.agg (encM x).toArray) (encM x) cs ok (fun _ => False) rfl rfl rfl rfl HS.out (encM_one x) HR4.out (by omega) hiz HCL.out HCC.out (by rw [encM_length]; exact Nat.le_refl _) HMM.out (fun _ q => q.elim) HB0.out ?_; intro w3 hR5 hB5 hG5; have HR5 := Lib.hid hR5; have HG5 := Lib.hid hG5; clear hR5 hG5))
          go_roundg (n - (j + 1))
          case measure => omega
          case rel => exact ⟨i + 1, j + 1, dk.set i x, by go_num, by go_num, by omega, by omega, by omega, Lib.hid (HI.out.keep HJ.out HX.out (by show (!p x) = true; rw [HQ.out]; rfl)), HR5, Lib.hid (HM4.out.grown HG5.out (fun k hk => .inl (by injection hk with hk; exact hk.symm)))⟩
      · have hltz : ¬ (j : Int) < (n : Int) := by omega
        obtain ⟨z, hv, hz, h1⟩ := zero124
        have HV := Lib.hid hv
        have HZ := Lib.hid hz
        have H1 := Lib.hid h1
        have hin : i < n := by omega
        have hiz : (i : Int) < (n : Int) := by omega
        have hic : (i : Int) < (c : Int) := by have := (Kd.R_reads' HR2.out).2.1; omega
        have hci : ¬ c = i := by omega
        clear hv hz h1
        go_wp2_with (first
          | (refine clear_law kMsg i hin rfl _ 117 rfl Try.underlying117 z HV.out HZ.out H1.out (by decide) rfl HR2.out ?_; intro w3 hR5 hG5; have HR5 := Lib.hid hR5; have HG5 := Lib.hid hG5; clear hR5 hG5))
        go_ret
        obtain rfl : j = zs.length := by have := HN.out; omega
        exact ⟨i, rfl, by have := HR5.out; rw [HI.out.done] at this; exact this, HM2.out.grown HG5.out (fun k hk => .inl (by injection hk with hk; exact hk.symm))⟩
theorem delete_any (p : Msg → Bool) (g : Nat) (lb : Array Value) (eg : ∀ args w, (callFunc g args).run Try.prog w = .ok (.enter g args) w) (A : Option Addr) (n c : Nat) (zs : List Msg) (ok : Nat → Prop) (w : World)
    (hp : PredB g lb p (fun k => (Value.slice A n c).ownBlock = some k) w) (HR : kMsg.R 124 w 0 ok (.slice A n c) zs) :
    Calls Try.prog 79 #[.slice A n c, .func (.func g) #[] lb] w fun e w' => ∃ m, e = .returned (.slice A m c) ∧ kMsg.R 124 w' 0 ok (.slice A m c) (zs.filter fun x => !p x) ∧ Mod (fun k => (Value.slice A n c).ownBlock = some k) w w' := by
  obtain ⟨inner, ho⟩ := Kd.R_own HR
  rcases ho.2 with ⟨hv, h0⟩ | ⟨b, cap, cur, hv, _⟩
  · injection hv with h1 h2 h3
    subst h1; subst h2; subst h3
    obtain rfl : zs = [] := List.eq_nil_of_length_eq_zero h0
    clear ho h0 hp eg inner
    have HRR := Lib.hid HR
    clear HR
    go_enter Try.func79, Try.ntmps79
    go_wp2_with (go_at_call 117; refine (index_nil _ _).mono ?_; rintro e w' ⟨rfl, rfl⟩)
    go_ret
    exact ⟨0, rfl, HRR.out, Mod.refl _ _⟩
  · injection hv with h1 h2 h3
    subst h1
    refine (delete_row p g lb eg b n c zs ok w (fun W x hm => hp W x (hm.mono (fun k hk => by subst hk; rfl))) HR).mono fun e w' ⟨m, h1, h2, h3⟩ => ⟨m, h1, h2, h3.mono (fun k hk => by subst hk; rfl)⟩
end Go.Proofs.Ytcdhgpodoigddaa
