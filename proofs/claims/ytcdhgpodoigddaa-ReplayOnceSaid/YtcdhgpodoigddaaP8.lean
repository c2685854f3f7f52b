/-
  The program's Check, walked.
-/
import Derived.Test.YtcdhgpodoigddaaP76
import Derived.Deep.RegionHeld3
import Derived.Deep.DeepCutAuto
namespace Go.Proofs.Ytcdhgpodoigddaa
open Go.RowKit Go.Proofs.YtcdhgpodoigddaaW.PrintWords Go.Proofs.YtcdhgpodoigddaaW.PrintLast Go.Proofs.YtcdhgpodoigddaaW.PrintMore
set_option linter.unusedVariables false
attribute [local go_sem] max2_max min2_min max_two min_two
attribute [local go_sem ↓] loadKey_eq buildMsg_eq sliceMsg_eq
attribute [local go_sem] loadKey_run buildMsg_run sliceMsg_run
section
variable {P : Program} {ops : Array Oper} {rest : List Oper} {op : Oper} {a : Act} {Q : Exit → Act → World → Prop}
/-- A value of several cells is loaded from wherever it lies. -/
theorem wpList_load_at {w : World} (hgd : op.guard = none) (ty : TypeId) (x : Operand) (ho : op.op = .load ty x) (ad : Addr) (hx : a.eval x = .pointer (some ad)) (cs : List Value) (d : TypeDesc)
    (hc : ∀ j v, cs[j]? = some v → w.cell? (ad.add j) = some v) (hu : P.underlying ty = some d) (hd : d.isRow = true) (hi : (P.info? ty).map (·.size) = some cs.length)
    (h : wpList P ops Q rest (a.put op.dst (.agg cs.toArray)) w) : wpList P ops Q (op :: rest) a w := by
  have hl : (loadCells ad cs.length).run P w = .ok cs.toArray w := run_loadCells_list (P := P) w ad cs hc
  have hr : (loadVar ty ad).run P w = .ok (.agg cs.toArray) w := by
    cases hq : P.info? ty with
    | none => simp [hq] at hi
    | some i =>
      have hs : i.size = cs.length := by simpa [hq] using hi
      have hagg : (isAgg ty).run P w = .ok true w := by
        unfold isAgg
        rw [Sem.run_bind, run_underlying hu w]
        cases d <;> simp_all
      simp [loadVar, Sem.run_bind, hagg, sizeOf, typeInfo, hq, hs, hl]
  refine wpList_plain hgd fun K hK => ?_
  unfold Oper.wp execOp
  simp only [ho, hx, Instr.loadAt, Instr.sureAddr, Sem.run_bind, Sem.run_pure, Result.andThen_ok, hr]
  exact hK _ _ h
end
theorem isFil_mono {w : World} {ok ok' : Nat → Prop} {g : Nat} {f : Fil} (h : IsFil w ok g f) (hk : ∀ k, ok k → ok' k) : IsFil w ok' g f := by
  obtain ⟨v, hb, hR, hg⟩ := h
  exact ⟨v, hb, Kd.R_mono hR hk, hk g hg⟩
theorem isFil_mod {w w' : World} {S ok : Nat → Prop} {g : Nat} {f : Fil} (h : IsFil w ok g f) (hm : Mod S w w') (hk : ∀ k, ok k → ¬ S k) : IsFil w' ok g f := by
  obtain ⟨v, hb, hR, hg⟩ := h
  exact ⟨v, hm.blk hb (hk g hg), Kd.R_step hR (fun k ho hl => hm.block k hl (hk k ho)), hg⟩
theorem isFil_below {w w' : World} {ok : Nat → Prop} {g : Nat} {f : Fil} (h : IsFil w ok g f) (hb : Below w.heap.size w w') : IsFil w' ok g f := isFil_mod h (Mod.of_below hb (fun _ => False)) (fun _ _ q => q)
theorem isFil_bound {w : World} {ok : Nat → Prop} {g : Nat} {f : Fil} (h : IsFil w ok g f) : IsFil w (fun k => ok k ∧ k < w.heap.size) g f := by
  obtain ⟨v, hb, hR, hg⟩ := h
  exact ⟨v, hb, Kd.R_mono (Kd.R_bound hR) (fun k hk => ⟨hk.1, hk.2.2.1⟩), hg, blk_lt hb⟩
theorem time_q (n z : Int) (h : cutT n = z) (w : World) : Calls Try.prog 77 #[.int .i64 n] w fun e w' => e = .returned (.int .i64 z) ∧ w' = w := (time_p n w).mono (fun e w' q => ⟨by rw [q.1, h], q.2.symm⟩)
set_option maxRecDepth 100000 in
set_option maxHeartbeats 4000000 in
theorem check_bad {ok : Nat → Prop} (g : Nat) (f : Fil) (now stamp : Int) (A : Option Addr) (n c : Nat) (w : World) (hI : IsFil w ok g f) (hb : goodB now stamp n = false) :
    Calls Try.prog 20 #[.pointer (some ⟨g, 0, none⟩), .int .i64 now, .int .i64 stamp, .slice A n c] w fun e w' => e = .returned (.int .i64 1) ∧ Below w.heap.size w w' := by
  have hB : ∀ o o' q, Below w.heap.size w (((w.alloc o).alloc o').drewN q) := fun o o' q => pw_below_drewN (((Below.refl _ w).alloc (Nat.le_refl _) o).alloc (by simp) o') q
  rcases good_cases hb with h | ⟨h1, h2⟩ | ⟨h1, h2, h3⟩
  · have e1 : (now != cutT now) = true := by simpa using h
    generalize hz : cutT now = z at e1
    have HZ := Lib.hid hz
    clear hz hb h hI
    go_enter Try.func20, Try.ntmps20
    go_wp2_with fail
    go_quiet ((go_at_call 77; exact Calls.quiet_of_same (time_q now z HZ.out _)))
    go_wp2_with fail
    go_ret
    exact ⟨rfl, hB _ _ _⟩
  · have e0 : (now != now) = false := by simp
    have e1 : (stamp != cutT stamp) = true := by simpa using h2
    generalize hz : cutT stamp = z at e1
    have HZ := Lib.hid hz
    have H1 := Lib.hid h1.symm
    clear hz hb h1 h2 hI
    go_enter Try.func20, Try.ntmps20
    go_wp2_with fail
    go_quiet ((first | (go_at_call 77; exact Calls.quiet_of_same (time_q now now H1.out _)) | (go_at_call 77; exact Calls.quiet_of_same (time_q stamp z HZ.out _))))
    go_wp2_with fail
    go_ret
    exact ⟨rfl, hB _ _ _⟩
  · have e0 : (now != now) = false := by simp
    have e1 : (stamp != stamp) = false := by simp
    have e2 : ((n : Int) != 32) = true := by simpa using (by omega : ¬ (n : Int) = 32)
    have H1 := Lib.hid h1.symm
    have H2 := Lib.hid h2.symm
    clear hb h1 h2 hI
    go_enter Try.func20, Try.ntmps20
    go_wp2_with fail
    go_quiet ((first | (go_at_call 77; exact Calls.quiet_of_same (time_q now now H1.out _)) | (go_at_call 77; exact Calls.quiet_of_same (time_q stamp stamp H2.out _))))
    go_wp2_with fail
    go_ret
    exact ⟨rfl, hB _ _ _⟩
theorem bytes_at {w : World} {ad : Addr} {n : Nat} {xs : List Int} (h : kB.C w (some ad) n xs) : ∀ j v, (nums .u8 xs)[j]? = some v → w.cell? (ad.add j) = some v := fun j v hv => by
  have hj : j < xs.length := by
    rcases Nat.lt_or_ge j xs.length with h | h
    · exact h
    · rw [List.getElem?_eq_none (by rw [nums_length]; exact h)] at hv; cases hv
  obtain ⟨ad', he, hc⟩ := h.2.2 (by have := h.1; omega)
  injection he with he
  subst he
  obtain ⟨c, hl, hK, hcc⟩ := hc j xs[j] (List.getElem?_eq_getElem hj)
  have hK' : c = [Value.int .u8 xs[j]] := hK
  subst hK'
  rw [nums, List.getElem?_map, List.getElem?_eq_getElem hj] at hv
  have := hcc 0 v hv
  have e : (kB : Kd Int).sz = 1 := rfl
  rwa [e, Nat.mul_one, Nat.add_zero] at this
theorem nums_one (xs : List Int) : ∀ v ∈ nums .u8 xs, v.oneCell' = true := fun v hv => by
  simp only [nums, List.mem_map] at hv
  obtain ⟨_, _, rfl⟩ := hv
  rfl
theorem run_arr (ad : Addr) (c : Nat) (W : World) : (Instr.arrayAt 122 (.slice (some ad) 32 c)).run Try.prog W = .ok (.pointer (some ad)) W := by simp [Instr.arrayAt, run_underlying Try.underlying122]
def zeroM : Value := .agg #[.int .u8 0, .int .u8 0, .int .u8 0, .int .u8 0, .int .u8 0, .int .u8 0, .int .u8 0, .int .u8 0, .int .u8 0, .int .u8 0, .int .u8 0, .int .u8 0, .int .u8 0, .int .u8 0, .int .u8 0, .int .u8 0, .int .u8 0, .int .u8 0, .int .u8 0, .int .u8 0, .int .u8 0, .int .u8 0, .int .u8 0, .int .u8 0, .int .u8 0, .int .u8 0, .int .u8 0, .int .u8 0, .int .u8 0, .int .u8 0, .int .u8 0, .int .u8 0, .int .i64 0]
theorem info124m : (Try.prog.info? 124).map (fun i => (i.zero, i.size, i.bytes)) = some (some zeroM, 33, 40) := by kernel_rfl
theorem step_appM {ops : Array Oper} {o : Oper} {a : Act} {Q : Exit → Act → World → Prop} {Kc : Act → World → Prop} {W : World} {ok : Nat → Prop} {v : Value} {l : List Msg} {x : Msg} {cs : Array Value}
    (HO : kMsg.R 124 W 0 ok v l) (hcs : cs = (encM x).toArray) (hfresh : ∀ k, W.heap.size ≤ k → ok k) (hl : (l.length : Int) < 256)
    (hw : Region.wanted o (yielded ops a.tmps) = true) (s x' : Operand) (ho : o.op = .call { callee := .builtin .append, args := #[s, x'], argTypes := #[117, 117] }) (hs : a.eval s = v) (hx : a.eval x' = .slice (some ⟨W.heap.size, 0, none⟩) 1 1)
    (h : ∀ v1 w1, kMsg.R 124 w1 0 ok v1 (l ++ [x]) → W.grownBy w1 v.ownBlock → Kc (a.put o.dst v1) w1) :
    if Region.wanted o (yielded ops a.tmps) = true then Oper.wp Try.prog o a (W.alloc (.cells cs 124)).drew Kc Q else Kc (a.put o.dst undef) (W.alloc (.cells cs 124)).drew := by
  subst hcs
  have HO' : kMsg.R 124 W.drew 0 ok v l := Kd.R_drew HO
  have := Kd.R_append_step (P := Try.prog) (ops := ops) (o := o) (a := a) (Q := Q) (Kc := Kc) kMsg (w0 := W.drew) (W := W.drew) 0 hw s x' 117 124 zeroM 40 ho Try.underlying117 info124m rfl (by decide) (by decide) v l x (encM x) ok (fun _ => False) hs hx rfl (fun _ q => q.elim) hfresh HO' (Below.refl _ _) (Nat.zero_le _) (by omega) (fun v1 w1 h1 _ h2 _ => h v1 w1 h1 ⟨h2.os, h2.tape, h2.output, h2.size, h2.block⟩)
  exact this
theorem size122 : (Try.prog.info? 122).map (·.size) = some 32 := by kernel_rfl
/-- What holds between Check's steps: the filter, the two boxes. -/
structure Mid (ok : Nat → Prop) (w : World) (g : Nat) (now : Int) (f : Fil) (wx : World) : Prop where
  fil : IsFil wx ok g f
  mod : Mod ok w wx
  b0 : wx.heap[w.heap.size]? = some (.cells #[.pointer (some ⟨g, 0, none⟩)] 23 (0, 0))
  b1 : wx.heap[w.heap.size + 1]? = some (.cells #[.int .i64 now] 2 (0, 0))
theorem Mid.below {ok : Nat → Prop} {w : World} {g : Nat} {now : Int} {f : Fil} {wx wy : World} (h : Mid ok w g now f wx) (hb : Below wx.heap.size wx wy) : Mid ok w g now f wy :=
  ⟨isFil_below h.fil hb, h.mod.ofBelow hb, blk_below h.b0 hb, blk_below h.b1 hb⟩
theorem set_l {W : World} {ok : Nat → Prop} {g : Nat} {f : Fil} {v v' : Value} {l : List Msg} (hb : W.heap[g]? = some (.cells #[.int .i64 f.win, .int .i64 f.most, .int .i64 f.since, v] 119 (0, 0))) (hR : kMsg.R 124 W 0 ok v' l) (hg : ok g) :
    IsFil (W.setCell ⟨g, 3, none⟩ v') ok g { f with l := l } :=
  ⟨v', by have := blk_set hb 3 v'; simpa using this, Kd.R_set hR hb (by intro q hq; simp [kMsg, flatK] at hq; omega) 3 v', hg⟩
theorem mid_done {ok S : Nat → Prop} {w W W1 w3 : World} {g : Nat} {now : Int} {f : Fil} {v v' : Value} {l : List Msg} (hM : Mid ok w g now f W) (h1 : Below W.heap.size W W1) (hM3 : Mod S W1 w3) (hS : ∀ k, S k → ok k) (hok : ∀ k, ok k → k < w.heap.size)
    (hz : w3.heap[g]? = some (.cells #[.int .i64 f.win, .int .i64 f.most, .int .i64 f.since, v] 119 (0, 0))) (hR3 : kMsg.R 124 w3 0 ok v' l) (hg : ok g) : Mid ok w g now { f with l := l } (w3.setCell ⟨g, 3, none⟩ v') := by
  have n0 : ¬ S w.heap.size := fun q => absurd (hok _ (hS _ q)) (Nat.lt_irrefl _)
  have n1 : ¬ S (w.heap.size + 1) := fun q => by have := hok _ (hS _ q); omega
  have hgl := hok g hg
  exact ⟨set_l hz hR3 hg, ((hM.mod.ofBelow h1).andThen hM3 (fun k hk => .inl (hS k hk))).setCell (.inl hg) _, blk_far (hM3.blk (blk_below hM.b0 h1) n0) (by show w.heap.size ≠ g; omega) _, blk_far (hM3.blk (blk_below hM.b1 h1) n1) (by show w.heap.size + 1 ≠ g; omega) _⟩
set_option maxRecDepth 100000 in
set_option maxHeartbeats 4000000 in
theorem check_good {ok : Nat → Prop} (g : Nat) (f : Fil) (hF : f.Fit) (now stamp : Int) (A : Option Addr) (c : Nat) (xs : List Int) (w : World) (hI : IsFil w ok g f) (hCM : ∀ W, Mod ok w W → kB.C W A 32 xs) (hok : ∀ k, ok k → k < w.heap.size) (h1 : now = cutT now) (h2 : stamp = cutT stamp) :
    Calls Try.prog 20 #[.pointer (some ⟨g, 0, none⟩), .int .i64 now, .int .i64 stamp, .slice A 32 c] w fun e w' => e = .returned (.int .i64 (f.check now stamp xs).1) ∧ IsFil w' (fun k => ok k ∨ w.heap.size ≤ k) g (f.check now stamp xs).2 ∧ Mod ok w w' := by
  have e0 : (now != now) = false := by simp
  have e1 : (stamp != stamp) = false := by simp
  have H1 := Lib.hid h1.symm
  have H2 := Lib.hid h2.symm
  have hC := hCM w (Mod.refl _ _)
  obtain ⟨ad, rfl, _⟩ := hC.2.2 (by decide)
  have hlen : xs.length = 32 := hC.1
  have HG : Hid (goodB now stamp xs.length = true) := Lib.hid (by unfold goodB; rw [← h1, ← h2, hlen]; simp)
  have HLn := Lib.hid hlen
  have hn0 := cutT_bounds now
  rw [← h1] at hn0
  have hs0 := cutT_bounds stamp
  rw [← h2] at hs0
  obtain ⟨hn0, hn1⟩ := hn0
  obtain ⟨hs0, hs1⟩ := hs0
  have HI := Lib.hid hI
  have HF := Lib.hid hF
  obtain ⟨w0, w1⟩ : 0 ≤ f.win ∧ f.win ≤ 1099511627776 := ⟨hF.win0, hF.win1⟩
  have hM0 : Mid ok w g now f ((w.alloc (.cells #[.pointer (some ⟨g, 0, none⟩)] 23)).alloc (.cells #[.int .i64 now] 2)) :=
    ⟨isFil_below (isFil_below hI ((Below.refl _ _).alloc (Nat.le_refl _) _)) ((Below.refl _ _).alloc (Nat.le_refl _) _), ((Mod.refl ok w).alloc _).alloc _, blk_alloc (heap_alloc_new w _) _, by have := heap_alloc_new (w.alloc (.cells #[.pointer (some ⟨g, 0, none⟩)] 23)) (.cells #[.int .i64 now] 2); simpa using this⟩
  have HM0 := Lib.hid hM0
  have HC := Lib.hid hCM
  have HOK := Lib.hid hok
  clear h1 h2 hlen hI hF hM0 hC hCM hok
  go_enter Try.func20, Try.ntmps20
  go_wp2_with fail
  go_quiet ((first | (go_at_call 77; exact Calls.quiet_of_same (time_q now now H1.out _)) | (go_at_call 77; exact Calls.quiet_of_same (time_q stamp stamp H2.out _))))
  go_upto_region 3 with fail
  go_cut [] (fun wx => Hid (Mid ok w g now { f with l := f.young now } wx))
  case first =>
    have HM := Lib.hid (HM0.out.below (pw_below_drewN (Below.refl _ _) nq))
    clear HM0 HI
    generalize (((w.alloc (.cells #[.pointer (some ⟨g, 0, none⟩)] 23)).alloc (.cells #[.int .i64 now] 2)).drewN nq) = W at *
    obtain ⟨v, hb, hR, hg⟩ := HM.out.fil
    obtain ⟨A1, c1, rfl⟩ := Kd.R_slice hR
    have hne : some g ≠ (Value.slice A1 f.l.length c1).ownBlock := Kd.R_ne hR hb (by decide)
    have hso : ∀ k, (Value.slice A1 f.l.length c1).ownBlock = some k → ok k := hR.1
    have x0 : W.cell? ⟨w.heap.size, 0, none⟩ = some (.pointer (some ⟨g, 0, none⟩)) := (blk_cell HM.out.b0 0).trans rfl
    have x1 : W.cell? ⟨w.heap.size + 1, 0, none⟩ = some (.int .i64 now) := (blk_cell HM.out.b1 0).trans rfl
    have x3 : W.cell? ⟨g, 3, none⟩ = some (.slice A1 f.l.length c1) := (blk_cell hb 3).trans rfl
    have x4 : W.cell? ⟨g, 0, none⟩ = some (.int .i64 f.win) := (blk_cell hb 0).trans rfl
    have HPW : Hid (∀ W', Below W.heap.size W W' → PredB 80 #[.pointer (some ⟨w.heap.size + 1, 0, none⟩), .pointer (some ⟨w.heap.size, 0, none⟩)] (oldB now f.win) (fun k => (Value.slice A1 f.l.length c1).ownBlock = some k) W') :=
      Lib.hid (fun W' h => old_pred now f.win _ _ g _ W' hn0 hn1 w0 w1 (pw_cell_below h x1) (pw_cell_below h x0) (pw_cell_below h x4) (fun q => by have := HOK.out _ (hso _ q); omega) (fun q => by have := HOK.out _ (hso _ q); omega) (fun q => hne q.symm))
    have HRW : Hid (∀ W', Below W.heap.size W W' → kMsg.R 124 W' 0 ok (.slice A1 f.l.length c1) f.l) := Lib.hid (fun W' h => Kd.R_below hR h)
    have HB := Lib.hid hb
    have HNE := Lib.hid hne
    have HSO := Lib.hid hso
    have HGK := Lib.hid hg
    clear hb hR hg hne hso x1 x4
    go_region_with ((first | (go_at_call 79; refine (delete_any (oldB now f.win) 80 _ ent80 A1 _ c1 f.l ok _ (HPW.out _ (by first | exact Below.refl _ _ | exact (Below.refl _ _).drew | exact pw_below_drewN (Below.refl _ _) _)) (HRW.out _ (by first | exact Below.refl _ _ | exact (Below.refl _ _).drew | exact pw_below_drewN (Below.refl _ _) _))).mono ?_; rintro e w3 ⟨m', rfl, hR3, hM3⟩; have z3 := hM3.blk HB.out (fun q => HNE.out q.symm); have HR3 := Lib.hid hR3; have HM3 := Lib.hid hM3; have HZ3 := Lib.hid z3; have y0 := hM3.cell x0 (fun q => absurd (HOK.out _ (HSO.out _ q)) (Nat.lt_irrefl _)); have y3 := hM3.cell x3 (fun q => HNE.out q.symm); have y4 := blk_frozen z3 3; clear hR3 hM3 z3)))
    all_goals go_wp2_with fail
    all_goals go_meet
    all_goals exact Lib.hid (mid_done HM.out (by first | exact Below.refl _ _ | exact (Below.refl _ _).drew | exact pw_below_drewN (Below.refl _ _) _) HM3.out HSO.out HOK.out HZ3.out HR3.out HGK.out)
  case rest =>
    have HCL := Lib.hid (bytes_at (HC.out wc hcut.out.mod))
    have hl32 : (nums .u8 xs).length = 32 := by rw [nums_length]; exact HLn.out
    have HL32 := Lib.hid hl32
    have HS : Hid ((Try.prog.info? 122).map (·.size) = some (nums .u8 xs).length) := Lib.hid (by rw [hl32]; exact size122)
    have harr := run_arr ad c
    clear hl32 HM0 HI
    go_upto_region 5 with (first
      | (refine wpList_load_at rfl 122 _ rfl ad rfl (nums .u8 xs) _ HCL.out Try.underlying122 rfl HS.out ?_)
      | (refine box_store wc 122 rfl rfl _ _ rfl (nums .u8 xs) rfl rfl HL32.out HS.out (nums_one xs) ?_; intro w3 hb3 hr3 hs3; have HB3 := Lib.hid hb3; have HR3 := Lib.hid hr3; clear hb3 hr3))
    go_cut [41] (fun s41 wy => s41 = .bool (lateB f now stamp) ∧ Hid (Mid ok w g now { f with l := f.young now } wy) ∧ Hid (wy.rangeAt wc.heap.size 0 (nums .u8 xs)))
    case first =>
      have HM := Lib.hid (hcut.out.below HB3.out)
      clear hcut HCL HB3
      obtain ⟨v, hb, hR, hg⟩ := HM.out.fil
      have x0 : w3.cell? ⟨w.heap.size, 0, none⟩ = some (.pointer (some ⟨g, 0, none⟩)) := (blk_cell HM.out.b0 0).trans rfl
      have x1 : w3.cell? ⟨w.heap.size + 1, 0, none⟩ = some (.int .i64 now) := (blk_cell HM.out.b1 0).trans rfl
      have x3 : w3.cell? ⟨g, 0, none⟩ = some (.int .i64 f.win) := (blk_cell hb 0).trans rfl
      have x4 : w3.cell? ⟨g, 2, none⟩ = some (.int .i64 f.since) := (blk_cell hb 2).trans rfl
      have hsub : IntKind.i64.wrap (now - f.win) = now - f.win := IntWalk.i64_in _ (by omega)
      have hadd : IntKind.i64.wrap (now + f.win) = now + f.win := IntWalk.i64_in _ (by omega)
      clear hb hR hg
      by_cases ha : stamp < now - f.win
      · have HL : Hid (lateB f now stamp = true) := Lib.hid (by unfold lateB; rw [decide_eq_true ha]; rfl)
        have d1 : decide (stamp < now - f.win) = true := decide_eq_true ha
        go_quiet (fail)
        (go_wp2_with fail; go_meet)
        exact ⟨by rw [HL.out], Lib.hid (HM.out.below (pw_below_drewN (Below.refl _ _) _)), Lib.hid HR3.out⟩
      · have d1 : decide (stamp < now - f.win) = false := decide_eq_false ha
        by_cases hb : now + f.win < stamp
        · have HL : Hid (lateB f now stamp = true) := Lib.hid (by unfold lateB; rw [decide_eq_true hb]; simp)
          have d2 : decide (now + f.win < stamp) = true := decide_eq_true hb
          go_quiet (fail)
          (go_wp2_with fail; go_meet)
          exact ⟨by rw [HL.out], Lib.hid (HM.out.below (pw_below_drewN (Below.refl _ _) _)), Lib.hid HR3.out⟩
        · have d2 : decide (now + f.win < stamp) = false := decide_eq_false hb
          by_cases hc : stamp ≤ f.since
          · have HL : Hid (lateB f now stamp = true) := Lib.hid (by unfold lateB; rw [decide_eq_true hc]; simp)
            have d3 : decide (stamp ≤ f.since) = true := decide_eq_true hc
            go_quiet (fail)
            (go_wp2_with fail; go_meet)
            exact ⟨by rw [HL.out], Lib.hid (HM.out.below (pw_below_drewN (Below.refl _ _) _)), Lib.hid HR3.out⟩
          · have HL : Hid (lateB f now stamp = false) := Lib.hid (by unfold lateB; rw [d1, d2, decide_eq_false hc]; rfl)
            have d3 : decide (stamp ≤ f.since) = false := decide_eq_false hc
            go_quiet (fail)
            (go_wp2_with fail; go_meet)
            exact ⟨by rw [HL.out], Lib.hid (HM.out.below (pw_below_drewN (Below.refl _ _) _)), Lib.hid HR3.out⟩
    case rest =>
      obtain ⟨he, HM, HRr⟩ := hcut
      clear hcut HCL HB3 HR3
      have HBD := Lib.hid (isFil_mono HM.out.fil (ok' := fun k => ok k ∨ w.heap.size ≤ k) (fun k hk => .inl hk))
      rcases hl : lateB f now stamp with _ | _
      rotate_left
      · rw [hl] at he
        subst he
        have HCk : Hid (f.check now stamp xs = (8, { f with l := f.young now })) := Lib.hid (by unfold Fil.check; rw [HG.out, hl]; rfl)
        clear hl
        go_wp2_with fail
        go_ret
        rw [HCk.out]
        exact ⟨rfl, HBD.out, HM.out.mod⟩
      · rw [hl] at he
        subst he
        have HL := Lib.hid hl
        clear hl
        obtain ⟨v, hb, hR, hg⟩ := HM.out.fil
        obtain ⟨A1, c1, rfl⟩ := Kd.R_slice hR
        have x0 : wc.cell? ⟨w.heap.size, 0, none⟩ = some (.pointer (some ⟨g, 0, none⟩)) := (blk_cell HM.out.b0 0).trans rfl
        have x3 : wc.cell? ⟨g, 3, none⟩ = some (.slice A1 (f.young now).length c1) := (blk_cell hb 3).trans rfl
        have x4 : wc.cell? ⟨g, 1, none⟩ = some (.int .i64 f.most) := (blk_cell hb 1).trans rfl
        have HRW := Lib.hid hR
        have HP := Lib.hid (key_pred xs HLn.out _ wc HRr.out)
        obtain ⟨an, han⟩ : ∃ an, ((f.young now).any fun x => x.e == xs) = an := ⟨_, rfl⟩
        have HAN := Lib.hid han
        have hcon := contains_any (fun x => x.e == xs) 82 _ ent82 A1 _ c1 (f.young now) ok wc HP.out HRW.out
        rw [han] at hcon
        have HCON := Lib.hid hcon
        have HB := Lib.hid hb
        have HGK := Lib.hid hg
        have f3 := blk_frozen hb 3
        clear hb hR hg hcon
        cases han' : an with
        | true =>
          subst han'
          have HCk : Hid (f.check now stamp xs = (8, { f with l := f.young now })) := Lib.hid (by unfold Fil.check; rw [HG.out, HL.out, HAN.out]; rfl)
          clear han
          go_wp2_with (go_at_call 81; refine HCON.out.mono ?_; rintro e w4 ⟨rfl, hb4⟩)
          go_ret
          rw [HCk.out]
          exact ⟨rfl, isFil_below HBD.out hb4, HM.out.mod.ofBelow hb4⟩
        | false =>
          subst han'
          clear han
          go_upto_region 9 with (go_at_call 81; refine HCON.out.mono ?_; rintro e w4 ⟨rfl, hb4⟩; have HB4 := Lib.hid hb4)
          have y0 := pw_cell_below hb4 x0
          have y3 := pw_cell_below hb4 x3
          have y4 := pw_cell_below hb4 x4
          clear hb4 x0 x3 x4
          by_cases hm : f.most ≤ ((f.young now).length : Int)
          · have HCk : Hid (f.check now stamp xs = (7, { f with l := f.young now })) := Lib.hid (by unfold Fil.check; rw [HG.out, HL.out, HAN.out, if_pos hm]; rfl)
            have hd : decide (f.most ≤ ((f.young now).length : Int)) = true := decide_eq_true hm
            go_quiet (fail)
            go_wp2_with fail
            go_ret
            rw [HCk.out]
            exact ⟨rfl, isFil_below HBD.out (pw_below_drewN HB4.out _), HM.out.mod.ofBelow (pw_below_drewN HB4.out _)⟩
          · have HCk : Hid (f.check now stamp xs = (0, { f with l := f.young now ++ [⟨xs, stamp, HLn.out⟩] })) := Lib.hid (by unfold Fil.check; rw [HG.out, HL.out, HAN.out, if_neg hm, dif_pos HLn.out]; rfl)
            have hd : decide (f.most ≤ ((f.young now).length : Int)) = false := decide_eq_false hm
            have hyl : ((f.young now).length : Int) < 256 := by have := HF.out.most1; omega
            have HR4 := Lib.hid (fun q v hv => pw_cell_below HB4.out (HRr.out q v hv))
            go_quiet (fail)
            go_upto_region 11 with fail
            have HMW := Lib.hid ((HM.out.below HB4.out).below (pw_below_drewN (Below.refl _ _) nq))
            have HRK : Hid ((w4.drewN nq).rangeAt _ 0 (nums .u8 xs)) := Lib.hid HR4.out
            clear HR4 HB4 HM HRr HBD HCON HP HRW y0 y3 y4 f3
            generalize w4.drewN nq = W at *
            obtain ⟨v, hb, hR, hg⟩ := HMW.out.fil
            have x0 : W.cell? ⟨w.heap.size, 0, none⟩ = some (.pointer (some ⟨g, 0, none⟩)) := (blk_cell HMW.out.b0 0).trans rfl
            obtain ⟨A2, c2, rfl⟩ := Kd.R_slice hR
            have x3 : W.cell? ⟨g, 3, none⟩ = some (.slice A2 (f.young now).length c2) := (blk_cell hb 3).trans rfl
            have hk1 : HasKey W _ := ⟨xs, HLn.out, HRK.out⟩
            have hk2 : HasKey W.drew _ := hk1
            obtain ⟨K, hK⟩ : ∃ K, (nums .u8 xs).toArray = K := ⟨_, rfl⟩
            have hk3 := (keyAt_eq HLn.out HRK.out).trans hK
            have hk4 := (keyAt_eq (W := W.drew) HLn.out HRK.out).trans hK
            have hks : K.size = 32 := by rw [← hK]; simp [nums_length, HLn.out]
            have HENC : Hid (K.push (.int .i64 stamp) = (encM ⟨xs, stamp, HLn.out⟩).toArray) := Lib.hid (by rw [← hK]; unfold encM; simp)
            clear hK
            have HB := Lib.hid hb
            have HRW := Lib.hid hR
            clear hb hR hg
            have HNE : Hid (some g ≠ (Value.slice A2 (f.young now).length c2).ownBlock) := Lib.hid (Kd.R_ne HRW.out HB.out (by decide))
            have HNB : Hid (some w.heap.size ≠ (Value.slice A2 (f.young now).length c2).ownBlock) := Lib.hid (fun q => absurd (HOK.out _ (HRW.out.1 _ q.symm)) (Nat.lt_irrefl _))
            have HRO := Lib.hid (Kd.R_mono HRW.out (ok' := fun k => ok k ∨ w.heap.size ≤ k) (fun k hk => .inl hk))
            have HFR : Hid (∀ k, W.heap.size ≤ k → ok k ∨ w.heap.size ≤ k) := Lib.hid (fun k hk => .inr (Nat.le_trans HMW.out.mod.size hk))
            have n0 := fun o => Lib.cell?_alloc_some o x0
            have n3 := fun o => Lib.cell?_alloc_some o x3
            have HFRd : Hid (∀ k, W.heap.size ≤ k → ok k ∨ w.heap.size ≤ k) := Lib.hid HFR.out
            have HROd : Hid (kMsg.R 124 W 0 (fun k => ok k ∨ w.heap.size ≤ k) (.slice A2 (f.young now).length c2) (f.young now)) := Lib.hid HRO.out
            go_region_law ((first
              | (refine step_appM HROd.out HENC.out HFRd.out hyl (by rfl) _ _ (by rfl) (by rfl) (by simp [Act.eval]) ?_; intro v1 w6 hR6 hG6; obtain ⟨A3, c3, rfl⟩ := Kd.R_slice hR6; have z6 := blk_grown HB.out hG6 HNE.out; have HR6 := Lib.hid hR6; have HG6 := Lib.hid hG6; have HZ6 := Lib.hid z6; have y0 := (blk_cell (blk_grown HMW.out.b0 hG6 HNB.out) 0).trans rfl; have y6 := blk_frozen z6 3; have y7 := (blk_cell z6 3).trans rfl; clear hR6 hG6 z6)))
            all_goals go_wp2_with fail
            all_goals go_ret
            all_goals rw [HCk.out]
            all_goals exact ⟨rfl, set_l (f := { f with l := f.young now }) HZ6.out (by have := HR6.out; rw [List.length_append] at this; exact this) (.inl HGK.out), (HMW.out.mod.grown HG6.out (fun k hk => .inl (HRW.out.1 k hk))).setCell (.inl HGK.out) _⟩
end Go.Proofs.Ytcdhgpodoigddaa
