/-
  The closures of Check: too old; of that key.
-/
import Derived.Test.YtcdhgpodoigddaaP3
import Derived.Deep.QuietTactic
import Derived.BigQuiet
import Derived.IntWalk
import Derived.Lib.SlBytesConst
namespace Go.Proofs.Ytcdhgpodoigddaa
open Go.RowKit Go.Proofs.YtcdhgpodoigddaaW.PrintWords Go.Proofs.YtcdhgpodoigddaaW.PrintLast Go.Proofs.YtcdhgpodoigddaaW.PrintMore
set_option linter.unusedVariables false
attribute [local go_sem] max2_max min2_min max_two min_two
theorem encM_stamp (x : Msg) : (encM x).toArray[32]? = some (.int .i64 x.st) := by
  unfold encM
  rw [List.getElem?_toArray, List.getElem?_append_right (by rw [nums_length, x.h]; decide), nums_length, x.h]
  rfl
def oldB (now win : Int) (x : Msg) : Bool := decide (x.st < now - win)
set_option maxRecDepth 100000 in
set_option maxHeartbeats 1000000 in
theorem old_at (now win : Int) (bn bf g : Nat) (W : World) (x : Msg) (h0 : 0 ≤ now) (h1 : now ≤ 1099511627776) (h2 : 0 ≤ win) (h3 : win ≤ 1099511627776)
    (hn' : W.cell? ⟨bn, 0, none⟩ = some (.int .i64 now)) (hf' : W.cell? ⟨bf, 0, none⟩ = some (.pointer (some ⟨g, 0, none⟩))) (hw' : W.cell? ⟨g, 0, none⟩ = some (.int .i64 win)) :
    Calls Try.prog 80 (#[.agg (encM x).toArray] ++ #[.pointer (some ⟨bn, 0, none⟩), .pointer (some ⟨bf, 0, none⟩)]) W fun e w' => e = .returned (.bool (oldB now win x)) ∧ Below W.heap.size W w' := by
  have e1 := World.new_ne W _ hn'
  have e2 := World.new_ne W _ hf'
  have e3 := World.new_ne W _ hw'
  have hc : (W.alloc (.cells (encM x).toArray 124)).cell? ⟨W.heap.size, 32, none⟩ = some (.int .i64 x.st) := by
    simp only [World.cell?, heap_alloc_new W]
    exact encM_stamp x
  have k1 := Lib.cell?_alloc_marked (.cells (encM x).toArray 124) hn'
  have k2 := Lib.cell?_alloc_marked (.cells (encM x).toArray 124) hf'
  have k3 := Lib.cell?_alloc_marked (.cells (encM x).toArray 124) hw'
  have hB : ∀ o n, Below W.heap.size W ((W.alloc o).drewN n) := fun o n => pw_below_drewN ((Below.refl _ W).alloc (Nat.le_refl _) o) n
  have hsub : IntKind.i64.wrap (now - win) = now - win := IntWalk.i64_in _ (by omega)
  unfold oldB
  show Calls Try.prog 80 #[.agg (encM x).toArray, .pointer (some ⟨bn, 0, none⟩), .pointer (some ⟨bf, 0, none⟩)] W _
  generalize (encM x).toArray = cs at *
  go_enter Try.func80, Try.ntmps80
  go_wp2_with fail
  go_quiet (fail)
  go_wp2_with fail
  go_ret
  exact ⟨rfl, hB _ _⟩
theorem ent80 : ∀ args w, (callFunc 80 args).run Try.prog w = .ok (.enter 80 args) w := fun args w => Try.call80 args w
theorem old_pred (now win : Int) (bn bf g : Nat) (S : Nat → Prop) (w : World) (h0 : 0 ≤ now) (h1 : now ≤ 1099511627776) (h2 : 0 ≤ win) (h3 : win ≤ 1099511627776)
    (hn : w.cell? ⟨bn, 0, none⟩ = some (.int .i64 now)) (hf : w.cell? ⟨bf, 0, none⟩ = some (.pointer (some ⟨g, 0, none⟩))) (hw : w.cell? ⟨g, 0, none⟩ = some (.int .i64 win))
    (sn : ¬ S bn) (sf : ¬ S bf) (sg : ¬ S g) : PredB 80 #[.pointer (some ⟨bn, 0, none⟩), .pointer (some ⟨bf, 0, none⟩)] (oldB now win) S w :=
  fun W x hm => old_at now win bn bf g W x h0 h1 h2 h3 (hm.cell hn sn) (hm.cell hf sf) (hm.cell hw sg)
end Go.Proofs.Ytcdhgpodoigddaa
