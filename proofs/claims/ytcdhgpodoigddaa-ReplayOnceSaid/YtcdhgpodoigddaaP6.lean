/-
  The closure of ContainsFunc: of that key.
-/
import Derived.Test.YtcdhgpodoigddaaP5
import Derived.Deep.MidRow
import Derived.OwnWalk
namespace Go.Proofs.Ytcdhgpodoigddaa
open Go.RowKit Go.Proofs.YtcdhgpodoigddaaW.PrintWords Go.Proofs.YtcdhgpodoigddaaW.PrintLast Go.Proofs.YtcdhgpodoigddaaW.PrintMore
set_option linter.unusedVariables false
theorem sizeOf5 (w : World) : (Go.sizeOf 5).run Try.prog w = .ok 1 w := by
  have h : (Try.prog.info? 5).map (·.size) = some 1 := by kernel_rfl
  obtain ⟨i, hi, hs⟩ := Option.map_eq_some_iff.1 h
  simp [Go.sizeOf, typeInfo, hi, hs]
theorem encM_key (W : World) (x : Msg) : (W.alloc (.cells (encM x).toArray 124)).rangeAt W.heap.size 0 (nums .u8 x.e) := fun j v hv => by
  simp only [World.cell?, heap_alloc_new W, Nat.zero_add]
  show (encM x).toArray[j]? = some v
  have hj : j < (nums .u8 x.e).length := by
    rcases Nat.lt_or_ge j (nums .u8 x.e).length with h | h
    · exact h
    · rw [List.getElem?_eq_none h] at hv; cases hv
  rw [List.getElem?_toArray, encM, List.getElem?_append_left hj]
  exact hv
set_option maxRecDepth 100000 in
set_option maxHeartbeats 1000000 in
theorem key_at (key : List Int) (hk : key.length = 32) (bk : Nat) (W : World) (x : Msg) (hcW : W.rangeAt bk 0 (nums .u8 key)) :
    Calls Try.prog 82 (#[.agg (encM x).toArray] ++ #[.pointer (some ⟨bk, 0, none⟩)]) W fun e w' => e = .returned (.bool (x.e == key)) ∧ Below W.heap.size W w' := by
  have h1 := Lib.hid (encM_key W x)
  have h2 := Lib.hid (World.rangeAt_alloc hcW (.cells (encM x).toArray 124))
  have he := fun W' => run_eql_nums (P := Try.prog) W' 122 5 32 Try.underlying122 Try.underlying5 sizeOf5 x.e key x.h hk
  have l1 : (nums .u8 x.e).length = 32 := by rw [nums_length]; exact x.h
  have l2 : (nums .u8 key).length = 32 := by rw [nums_length]; exact hk
  have hi : (Try.prog.info? 122).map (·.size) = some 32 := by kernel_rfl
  have HI1 := Lib.hid (l1 ▸ hi : (Try.prog.info? 122).map (·.size) = some (nums .u8 x.e).length)
  have HI2 := Lib.hid (l2 ▸ hi : (Try.prog.info? 122).map (·.size) = some (nums .u8 key).length)
  have hB : ∀ o, Below W.heap.size W (W.alloc o) := fun o => (Below.refl _ W).alloc (Nat.le_refl _) o
  clear hi l1 l2 hcW
  show Calls Try.prog 82 #[.agg (encM x).toArray, .pointer (some ⟨bk, 0, none⟩)] W _
  generalize (encM x).toArray = cs at *
  go_enter Try.func82, Try.ntmps82
  go_wp2_with (first
    | (refine wpList_load_mid rfl 122 _ rfl W.heap.size 0 rfl (nums .u8 x.e) _ h1.out Try.underlying122 rfl HI1.out ?_)
    | (refine wpList_load_mid rfl 122 _ rfl bk 0 rfl (nums .u8 key) _ h2.out Try.underlying122 rfl HI2.out ?_))
  go_ret
  exact ⟨rfl, hB _⟩
theorem ent82 : ∀ args w, (callFunc 82 args).run Try.prog w = .ok (.enter 82 args) w := fun args w => Try.call82 args w
theorem key_pred (key : List Int) (hk : key.length = 32) (bk : Nat) (w : World) (hc : w.rangeAt bk 0 (nums .u8 key)) : PredB 82 #[.pointer (some ⟨bk, 0, none⟩)] (fun x => x.e == key) (fun _ => False) w :=
  fun W x hm => key_at key hk bk W x (fun j v hv => hm.cell (hc j v hv) (fun h => h))
end Go.Proofs.Ytcdhgpodoigddaa
