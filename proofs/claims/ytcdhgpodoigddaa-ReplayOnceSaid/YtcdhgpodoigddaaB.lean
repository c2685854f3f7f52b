/-
  Words of this seat: a world of which all but some blocks is as it was; kinds of the structs; states of streams.
-/
import Derived.Test.YtcdhgpodoigddaaProg
import Derived.WalkKit
import Derived.WalkSpells
import Derived.WalkLawsBesides
import Derived.BigQuiet
import Derived.Deep.QuietTactic
import Derived.Deep.RegionHeld3
import Derived.Deep.RegionLaw
import Derived.Deep.RegionWith
import Derived.StillTailTactics
import Derived.Lib.Hide
import Derived.Test.YtcdhgpodoigddaaWMore
import Derived.Test.YtcdhgpodoigddaaWKept
import Derived.Test.YtcdhgpodoigddaaWShare
namespace Go.Proofs.Ytcdhgpodoigddaa
open Go.RowKit Go.Proofs.YtcdhgpodoigddaaW.PrintWords Go.Proofs.YtcdhgpodoigddaaW.PrintLast Go.Proofs.YtcdhgpodoigddaaW.PrintMore
set_option linter.unusedVariables false

theorem min2_min (k k' : IntKind) (x y : Int) : Builtin.min2 (Value.int k x) (Value.int k' y) = pure (Value.int k (min x y)) := by
  rw [min2_int]; congr 2; omega
theorem max2_max (k k' : IntKind) (x y : Int) : Builtin.max2 (Value.int k x) (Value.int k' y) = pure (Value.int k (max x y)) := by
  rw [max2_int]; congr 2; omega

/-- All but the blocks of S is as it was; the streams too. -/
structure Mod (S : Nat → Prop) (w w' : World) : Prop where
  os : w'.os = w.os
  tape : w'.tape = w.tape
  output : w'.output = w.output
  size : w.heap.size ≤ w'.heap.size
  block : ∀ k, k < w.heap.size → ¬ S k → w'.heap[k]? = w.heap[k]?
namespace Mod
variable {S S2 : Nat → Prop} {w w1 w2 : World}
theorem refl (S : Nat → Prop) (w : World) : Mod S w w := ⟨rfl, rfl, rfl, Nat.le_refl _, fun _ _ _ => rfl⟩
theorem mono (h : Mod S w w1) (hs : ∀ k, S k → S2 k) : Mod S2 w w1 := ⟨h.os, h.tape, h.output, h.size, fun k hk hn => h.block k hk (fun q => hn (hs k q))⟩
theorem andThen (h : Mod S w w1) (k : Mod S2 w1 w2) (hs : ∀ k, S2 k → S k ∨ w.heap.size ≤ k) : Mod S w w2 :=
  ⟨k.os.trans h.os, k.tape.trans h.tape, k.output.trans h.output, Nat.le_trans h.size k.size,
    fun i hi hn => (k.block i (Nat.lt_of_lt_of_le hi h.size) (fun q => (hs i q).elim hn (fun r => by omega))).trans (h.block i hi hn)⟩
theorem of_below (h : Below w.heap.size w w1) (S : Nat → Prop) : Mod S w w1 := ⟨h.os, h.tape, h.output, h.size, fun k hk _ => h.block k hk⟩
theorem ofBelow (h : Mod S w w1) (k : Below w1.heap.size w1 w2) : Mod S w w2 := h.andThen (of_below k (fun _ => False)) (fun _ q => q.elim)
theorem alloc (h : Mod S w w1) (o : Obj) : Mod S w (w1.alloc o) := h.ofBelow ((Below.refl _ w1).alloc (Nat.le_refl _) o)
theorem drew (h : Mod S w w1) : Mod S w w1.drew := ⟨h.os, h.tape, h.output, h.size, h.block⟩
theorem drewN (h : Mod S w w1) (n : Nat) : Mod S w (w1.drewN n) := ⟨h.os, h.tape, h.output, h.size, h.block⟩
theorem setCell (h : Mod S w w1) {p : Addr} (hp : S p.block ∨ w.heap.size ≤ p.block) (u : Value) : Mod S w (w1.setCell p u) :=
  h.andThen (S2 := fun k => k = p.block) ⟨rfl, rfl, rfl, by simp [World.setCell], fun i _ hn => Below.heap_setCell w1 p u i hn⟩ (fun k hk => by subst hk; exact hp)
theorem grown {row : Option Nat} (h : Mod S w w1) (hg : w1.grownBy w2 row) (hr : ∀ k, row = some k → S k ∨ w.heap.size ≤ k) : Mod S w w2 :=
  h.andThen (S2 := fun k => row = some k) ⟨hg.os, hg.tape, hg.output, hg.size, fun i hi hn => hg.block i hi (fun e => hn e.symm)⟩ hr
theorem below {B : Nat} (h : Mod S w w1) (hs : ∀ k, S k → B ≤ k) (hB : B ≤ w.heap.size) : Below B w w1 :=
  ⟨h.os, h.tape, h.output, h.size, fun k hk => h.block k (by omega) (fun q => by have := hs k q; omega)⟩
theorem kept (h : Mod S w w1) : Kept w w1 S := ⟨h.size, h.block⟩
theorem blk (h : Mod S w w1) {g : Nat} {o : Obj} (hb : w.heap[g]? = some o) (hn : ¬ S g) : w1.heap[g]? = some o := (h.block g (blk_lt hb) hn).trans hb
theorem cell (h : Mod S w w1) {a : Addr} {v : Value} (hc : w.cell? a = some v) (hn : ¬ S a.block) : w1.cell? a = some v :=
  (World.cell?_of_block (w := w) (h.block a.block (World.block_lt_of_cell? w a hc) hn)).trans hc
end Mod

/-! ### Kinds (printed by the kit's kinds.py) -/
def rd_L4 (xs : List (List Int)) (i : Int) : (List Int) := xs.getD i.toNat ([] : List Int)
theorem at_L4 {w : World} {A : Option Addr} {n : Nat} {xs : List (List Int)} (h : Kd.C (Kd.slice 5 (Kd.int .u8)) w A n xs) (i : Int) (h0 : 0 ≤ i) (h1 : i < n) : ∃ ad A0 c0, A = some ad ∧ w.cell? (ad.add i.toNat) = some (.slice A0 (rd_L4 xs i).length c0) ∧ (rd_L4 xs i).length ≤ c0 ∧ (Kd.int .u8).C w A0 (rd_L4 xs i).length (rd_L4 xs i) := by
  obtain ⟨ad, c, e, _, hK, hc0⟩ := Kd.C_get h ([] : List Int) i h0 h1
  have hc : ∀ j u, c[j]? = some u → w.cell? (ad.add (i.toNat * 1 + j)) = some u := hc0
  obtain ⟨A0, c0, rfl, l0, g0⟩ := hK
  exact ⟨ad, A0, c0, e, by have hq := hc 0 _ rfl; rwa [Nat.mul_one, Nat.add_zero] at hq, l0, g0⟩

/-! #### struct type 50 -/
structure S50 where
  f0 : Int
  f1 : (List Int)
  f2 : ByteArray
  f3 : Int
def z50 : S50 := ⟨(0 : Int), ([] : List Int), (⟨#[]⟩ : ByteArray), (0 : Int)⟩
def k50 : Kd S50 := Kd.iso (Kd.pair (Kd.int .i64) (Kd.pair (Kd.slice 5 (Kd.int .u8)) (Kd.pair Kd.string (Kd.int .i64)))) (fun x : S50 => (x.f0, x.f1, x.f2, x.f3))
theorem k50_heap : Kd.Heap k50 := Kd.heap_iso _ (Kd.heap_pair (Kd.heap_int .i64) (Kd.heap_pair (Kd.heap_slice 5 (Kd.heap_int .u8)) (Kd.heap_pair Kd.heap_string (Kd.heap_int .i64))))
theorem k50_open {w : World} {x : S50} {cs : List Value} (h : k50.K w x cs) : ∃ A1 c1, cs = [.int .i64 x.f0, .slice A1 x.f1.length c1, .string x.f2, .int .i64 x.f3] ∧ x.f1.length ≤ c1 ∧ (Kd.int .u8).C w A1 x.f1.length x.f1 := by
  obtain ⟨_, _, rfl, rfl, ⟨_, _, rfl, ⟨A1, c1, rfl, l1, g1⟩, ⟨_, _, rfl, rfl, rfl⟩⟩⟩ := h
  exact ⟨A1, c1, rfl, l1, g1⟩
theorem k50_openM {w : World} {base : Nat} {ok : Nat → Prop} {x : S50} {cs : List Value} (h : k50.M w base ok x cs) : ∃ v1, cs = [.int .i64 x.f0, v1, .string x.f2, .int .i64 x.f3] ∧ (Kd.int .u8).R 5 w base ok v1 x.f1 := by
  obtain ⟨_, _, rfl, rfl, ⟨_, _, rfl, ⟨v1, rfl, g1⟩, ⟨_, _, rfl, rfl, rfl⟩⟩⟩ := h
  exact ⟨v1, rfl, g1⟩
theorem k50_mk (w : World) (x : S50) {A1 : Option Addr} {c1 : Nat} (l1 : x.f1.length ≤ c1) (g1 : (Kd.int .u8).C w A1 x.f1.length x.f1) : k50.K w x [.int .i64 x.f0, .slice A1 x.f1.length c1, .string x.f2, .int .i64 x.f3] := ⟨[.int .i64 x.f0], [.slice A1 x.f1.length c1, .string x.f2, .int .i64 x.f3], rfl, rfl, ⟨[.slice A1 x.f1.length c1], [.string x.f2, .int .i64 x.f3], rfl, ⟨A1, c1, rfl, l1, g1⟩, ⟨[.string x.f2], [.int .i64 x.f3], rfl, rfl, rfl⟩⟩⟩
theorem k50_mkM (w : World) (base : Nat) (ok : Nat → Prop) (x : S50) {v1 : Value} (g1 : (Kd.int .u8).R 5 w base ok v1 x.f1) : k50.M w base ok x [.int .i64 x.f0, v1, .string x.f2, .int .i64 x.f3] := ⟨[.int .i64 x.f0], [v1, .string x.f2, .int .i64 x.f3], rfl, rfl, ⟨[v1], [.string x.f2, .int .i64 x.f3], rfl, ⟨v1, rfl, g1⟩, ⟨[.string x.f2], [.int .i64 x.f3], rfl, rfl, rfl⟩⟩⟩
theorem k50_openF {W : World} {ok : Nat → Prop} {x : S50} {cs : List Value} (h : Kd.FK k50 W ok x cs) : ∃ A1 c1, cs = [.int .i64 x.f0, .slice A1 x.f1.length c1, .string x.f2, .int .i64 x.f3] ∧ x.f1.length ≤ c1 ∧ Kd.F (Kd.int .u8) W ok A1 x.f1.length x.f1 := by
  obtain ⟨A1, c1, rfl, l1, _⟩ := k50_open (Kd.FK_now h)
  exact ⟨A1, c1, rfl, l1, (fun W' hW => by obtain ⟨A1_, c1_, he, l1_, g1_⟩ := k50_open (h W' hW); injection (Option.some.inj (show some (Value.slice A1 x.f1.length c1) = some (Value.slice A1_ x.f1.length c1_) from congrArg (fun l => l[1]?) he)) with ha_ _ _; rw [ha_]; exact g1_)⟩
theorem k50_mkF (W : World) (ok : Nat → Prop) (x : S50) {A1 : Option Addr} {c1 : Nat} (l1 : x.f1.length ≤ c1) (g1 : Kd.F (Kd.int .u8) W ok A1 x.f1.length x.f1) : Kd.FK k50 W ok x [.int .i64 x.f0, .slice A1 x.f1.length c1, .string x.f2, .int .i64 x.f3] := fun W2 hW => k50_mk W2 x l1 (g1 W2 hW)
def rd_T50 (xs : List S50) (i : Int) : S50 := xs.getD i.toNat z50
theorem at_T50 {w : World} {A : Option Addr} {n : Nat} {xs : List S50} (h : Kd.C k50 w A n xs) (i : Int) (h0 : 0 ≤ i) (h1 : i < n) : ∃ ad A1 c1, A = some ad ∧ w.cell? (ad.add (i.toNat * 4)) = some (.int .i64 (rd_T50 xs i).f0) ∧ w.cell? ⟨(ad.add (i.toNat * 4)).block, (ad.add (i.toNat * 4)).off + 1, none⟩ = some (.slice A1 (rd_T50 xs i).f1.length c1) ∧ w.cell? ⟨(ad.add (i.toNat * 4)).block, (ad.add (i.toNat * 4)).off + 2, none⟩ = some (.string (rd_T50 xs i).f2) ∧ w.cell? ⟨(ad.add (i.toNat * 4)).block, (ad.add (i.toNat * 4)).off + 3, none⟩ = some (.int .i64 (rd_T50 xs i).f3) ∧ (rd_T50 xs i).f1.length ≤ c1 ∧ (Kd.int .u8).C w A1 (rd_T50 xs i).f1.length (rd_T50 xs i).f1 := by
  obtain ⟨ad, c, e, _, hK, hc0⟩ := Kd.C_get h z50 i h0 h1
  have hc : ∀ j u, c[j]? = some u → w.cell? (ad.add (i.toNat * 4 + j)) = some u := hc0
  obtain ⟨A1, c1, rfl, l1, g1⟩ := k50_open hK
  exact ⟨ad, A1, c1, e, hc 0 _ rfl, by rw [← add_field _ _ 1 (by omega)]; exact hc 1 _ rfl, by rw [← add_field _ _ 2 (by omega)]; exact hc 2 _ rfl, by rw [← add_field _ _ 3 (by omega)]; exact hc 3 _ rfl, l1, g1⟩

/-! #### struct type 52 -/
structure S52 where
  f0 : Int
  f1 : Int
  f2 : Int
  f3 : Int
  f4 : S50
  f5 : (List Int)
def z52 : S52 := ⟨(0 : Int), (0 : Int), (0 : Int), (0 : Int), z50, ([] : List Int)⟩
def k52 : Kd S52 := Kd.iso (Kd.pair (Kd.int .i64) (Kd.pair (Kd.int .i64) (Kd.pair (Kd.int .i64) (Kd.pair (Kd.int .i64) (Kd.pair k50 (Kd.slice 5 (Kd.int .u8))))))) (fun x : S52 => (x.f0, x.f1, x.f2, x.f3, x.f4, x.f5))
theorem k52_heap : Kd.Heap k52 := Kd.heap_iso _ (Kd.heap_pair (Kd.heap_int .i64) (Kd.heap_pair (Kd.heap_int .i64) (Kd.heap_pair (Kd.heap_int .i64) (Kd.heap_pair (Kd.heap_int .i64) (Kd.heap_pair k50_heap (Kd.heap_slice 5 (Kd.heap_int .u8)))))))
theorem k52_open {w : World} {x : S52} {cs : List Value} (h : k52.K w x cs) : ∃ A5 c5 A8 c8, cs = [.int .i64 x.f0, .int .i64 x.f1, .int .i64 x.f2, .int .i64 x.f3, .int .i64 x.f4.f0, .slice A5 x.f4.f1.length c5, .string x.f4.f2, .int .i64 x.f4.f3, .slice A8 x.f5.length c8] ∧ x.f4.f1.length ≤ c5 ∧ (Kd.int .u8).C w A5 x.f4.f1.length x.f4.f1 ∧ x.f5.length ≤ c8 ∧ (Kd.int .u8).C w A8 x.f5.length x.f5 := by
  obtain ⟨_, _, rfl, rfl, ⟨_, _, rfl, rfl, ⟨_, _, rfl, rfl, ⟨_, _, rfl, rfl, ⟨_, _, rfl, s4, ⟨A8, c8, rfl, l8, g8⟩⟩⟩⟩⟩⟩ := h
  obtain ⟨A5, c5, rfl, l5, g5⟩ := k50_open s4
  exact ⟨A5, c5, A8, c8, rfl, l5, g5, l8, g8⟩
theorem k52_openM {w : World} {base : Nat} {ok : Nat → Prop} {x : S52} {cs : List Value} (h : k52.M w base ok x cs) : ∃ v5 v8, cs = [.int .i64 x.f0, .int .i64 x.f1, .int .i64 x.f2, .int .i64 x.f3, .int .i64 x.f4.f0, v5, .string x.f4.f2, .int .i64 x.f4.f3, v8] ∧ (Kd.int .u8).R 5 w base ok v5 x.f4.f1 ∧ (Kd.int .u8).R 5 w base ok v8 x.f5 := by
  obtain ⟨_, _, rfl, rfl, ⟨_, _, rfl, rfl, ⟨_, _, rfl, rfl, ⟨_, _, rfl, rfl, ⟨_, _, rfl, s4, ⟨v8, rfl, g8⟩⟩⟩⟩⟩⟩ := h
  obtain ⟨v5, rfl, g5⟩ := k50_openM s4
  exact ⟨v5, v8, rfl, g5, g8⟩
theorem k52_mk (w : World) (x : S52) {A5 : Option Addr} {c5 : Nat} (l5 : x.f4.f1.length ≤ c5) (g5 : (Kd.int .u8).C w A5 x.f4.f1.length x.f4.f1) {A8 : Option Addr} {c8 : Nat} (l8 : x.f5.length ≤ c8) (g8 : (Kd.int .u8).C w A8 x.f5.length x.f5) : k52.K w x [.int .i64 x.f0, .int .i64 x.f1, .int .i64 x.f2, .int .i64 x.f3, .int .i64 x.f4.f0, .slice A5 x.f4.f1.length c5, .string x.f4.f2, .int .i64 x.f4.f3, .slice A8 x.f5.length c8] := ⟨[.int .i64 x.f0], [.int .i64 x.f1, .int .i64 x.f2, .int .i64 x.f3, .int .i64 x.f4.f0, .slice A5 x.f4.f1.length c5, .string x.f4.f2, .int .i64 x.f4.f3, .slice A8 x.f5.length c8], rfl, rfl, ⟨[.int .i64 x.f1], [.int .i64 x.f2, .int .i64 x.f3, .int .i64 x.f4.f0, .slice A5 x.f4.f1.length c5, .string x.f4.f2, .int .i64 x.f4.f3, .slice A8 x.f5.length c8], rfl, rfl, ⟨[.int .i64 x.f2], [.int .i64 x.f3, .int .i64 x.f4.f0, .slice A5 x.f4.f1.length c5, .string x.f4.f2, .int .i64 x.f4.f3, .slice A8 x.f5.length c8], rfl, rfl, ⟨[.int .i64 x.f3], [.int .i64 x.f4.f0, .slice A5 x.f4.f1.length c5, .string x.f4.f2, .int .i64 x.f4.f3, .slice A8 x.f5.length c8], rfl, rfl, ⟨[.int .i64 x.f4.f0, .slice A5 x.f4.f1.length c5, .string x.f4.f2, .int .i64 x.f4.f3], [.slice A8 x.f5.length c8], rfl, (k50_mk w x.f4 l5 g5), ⟨A8, c8, rfl, l8, g8⟩⟩⟩⟩⟩⟩
theorem k52_mkM (w : World) (base : Nat) (ok : Nat → Prop) (x : S52) {v5 : Value} (g5 : (Kd.int .u8).R 5 w base ok v5 x.f4.f1) {v8 : Value} (g8 : (Kd.int .u8).R 5 w base ok v8 x.f5) : k52.M w base ok x [.int .i64 x.f0, .int .i64 x.f1, .int .i64 x.f2, .int .i64 x.f3, .int .i64 x.f4.f0, v5, .string x.f4.f2, .int .i64 x.f4.f3, v8] := ⟨[.int .i64 x.f0], [.int .i64 x.f1, .int .i64 x.f2, .int .i64 x.f3, .int .i64 x.f4.f0, v5, .string x.f4.f2, .int .i64 x.f4.f3, v8], rfl, rfl, ⟨[.int .i64 x.f1], [.int .i64 x.f2, .int .i64 x.f3, .int .i64 x.f4.f0, v5, .string x.f4.f2, .int .i64 x.f4.f3, v8], rfl, rfl, ⟨[.int .i64 x.f2], [.int .i64 x.f3, .int .i64 x.f4.f0, v5, .string x.f4.f2, .int .i64 x.f4.f3, v8], rfl, rfl, ⟨[.int .i64 x.f3], [.int .i64 x.f4.f0, v5, .string x.f4.f2, .int .i64 x.f4.f3, v8], rfl, rfl, ⟨[.int .i64 x.f4.f0, v5, .string x.f4.f2, .int .i64 x.f4.f3], [v8], rfl, (k50_mkM w base ok x.f4 g5), ⟨v8, rfl, g8⟩⟩⟩⟩⟩⟩
theorem k52_openF {W : World} {ok : Nat → Prop} {x : S52} {cs : List Value} (h : Kd.FK k52 W ok x cs) : ∃ A5 c5 A8 c8, cs = [.int .i64 x.f0, .int .i64 x.f1, .int .i64 x.f2, .int .i64 x.f3, .int .i64 x.f4.f0, .slice A5 x.f4.f1.length c5, .string x.f4.f2, .int .i64 x.f4.f3, .slice A8 x.f5.length c8] ∧ x.f4.f1.length ≤ c5 ∧ Kd.F (Kd.int .u8) W ok A5 x.f4.f1.length x.f4.f1 ∧ x.f5.length ≤ c8 ∧ Kd.F (Kd.int .u8) W ok A8 x.f5.length x.f5 := by
  obtain ⟨A5, c5, A8, c8, rfl, l5, _, l8, _⟩ := k52_open (Kd.FK_now h)
  exact ⟨A5, c5, A8, c8, rfl, l5, (fun W' hW => by obtain ⟨A5_, c5_, A8_, c8_, he, l5_, g5_, l8_, g8_⟩ := k52_open (h W' hW); injection (Option.some.inj (show some (Value.slice A5 x.f4.f1.length c5) = some (Value.slice A5_ x.f4.f1.length c5_) from congrArg (fun l => l[5]?) he)) with ha_ _ _; rw [ha_]; exact g5_), l8, (fun W' hW => by obtain ⟨A5_, c5_, A8_, c8_, he, l5_, g5_, l8_, g8_⟩ := k52_open (h W' hW); injection (Option.some.inj (show some (Value.slice A8 x.f5.length c8) = some (Value.slice A8_ x.f5.length c8_) from congrArg (fun l => l[8]?) he)) with ha_ _ _; rw [ha_]; exact g8_)⟩
theorem k52_mkF (W : World) (ok : Nat → Prop) (x : S52) {A5 : Option Addr} {c5 : Nat} (l5 : x.f4.f1.length ≤ c5) (g5 : Kd.F (Kd.int .u8) W ok A5 x.f4.f1.length x.f4.f1) {A8 : Option Addr} {c8 : Nat} (l8 : x.f5.length ≤ c8) (g8 : Kd.F (Kd.int .u8) W ok A8 x.f5.length x.f5) : Kd.FK k52 W ok x [.int .i64 x.f0, .int .i64 x.f1, .int .i64 x.f2, .int .i64 x.f3, .int .i64 x.f4.f0, .slice A5 x.f4.f1.length c5, .string x.f4.f2, .int .i64 x.f4.f3, .slice A8 x.f5.length c8] := fun W2 hW => k52_mk W2 x l5 (g5 W2 hW) l8 (g8 W2 hW)
def rd_T52 (xs : List S52) (i : Int) : S52 := xs.getD i.toNat z52
theorem at_T52 {w : World} {A : Option Addr} {n : Nat} {xs : List S52} (h : Kd.C k52 w A n xs) (i : Int) (h0 : 0 ≤ i) (h1 : i < n) : ∃ ad A5 c5 A8 c8, A = some ad ∧ w.cell? (ad.add (i.toNat * 9)) = some (.int .i64 (rd_T52 xs i).f0) ∧ w.cell? ⟨(ad.add (i.toNat * 9)).block, (ad.add (i.toNat * 9)).off + 1, none⟩ = some (.int .i64 (rd_T52 xs i).f1) ∧ w.cell? ⟨(ad.add (i.toNat * 9)).block, (ad.add (i.toNat * 9)).off + 2, none⟩ = some (.int .i64 (rd_T52 xs i).f2) ∧ w.cell? ⟨(ad.add (i.toNat * 9)).block, (ad.add (i.toNat * 9)).off + 3, none⟩ = some (.int .i64 (rd_T52 xs i).f3) ∧ w.cell? ⟨(ad.add (i.toNat * 9)).block, (ad.add (i.toNat * 9)).off + 4, none⟩ = some (.int .i64 (rd_T52 xs i).f4.f0) ∧ w.cell? ⟨(ad.add (i.toNat * 9)).block, (ad.add (i.toNat * 9)).off + 5, none⟩ = some (.slice A5 (rd_T52 xs i).f4.f1.length c5) ∧ w.cell? ⟨(ad.add (i.toNat * 9)).block, (ad.add (i.toNat * 9)).off + 6, none⟩ = some (.string (rd_T52 xs i).f4.f2) ∧ w.cell? ⟨(ad.add (i.toNat * 9)).block, (ad.add (i.toNat * 9)).off + 7, none⟩ = some (.int .i64 (rd_T52 xs i).f4.f3) ∧ w.cell? ⟨(ad.add (i.toNat * 9)).block, (ad.add (i.toNat * 9)).off + 8, none⟩ = some (.slice A8 (rd_T52 xs i).f5.length c8) ∧ (rd_T52 xs i).f4.f1.length ≤ c5 ∧ (Kd.int .u8).C w A5 (rd_T52 xs i).f4.f1.length (rd_T52 xs i).f4.f1 ∧ (rd_T52 xs i).f5.length ≤ c8 ∧ (Kd.int .u8).C w A8 (rd_T52 xs i).f5.length (rd_T52 xs i).f5 := by
  obtain ⟨ad, c, e, _, hK, hc0⟩ := Kd.C_get h z52 i h0 h1
  have hc : ∀ j u, c[j]? = some u → w.cell? (ad.add (i.toNat * 9 + j)) = some u := hc0
  obtain ⟨A5, c5, A8, c8, rfl, l5, g5, l8, g8⟩ := k52_open hK
  exact ⟨ad, A5, c5, A8, c8, e, hc 0 _ rfl, by rw [← add_field _ _ 1 (by omega)]; exact hc 1 _ rfl, by rw [← add_field _ _ 2 (by omega)]; exact hc 2 _ rfl, by rw [← add_field _ _ 3 (by omega)]; exact hc 3 _ rfl, by rw [← add_field _ _ 4 (by omega)]; exact hc 4 _ rfl, by rw [← add_field _ _ 5 (by omega)]; exact hc 5 _ rfl, by rw [← add_field _ _ 6 (by omega)]; exact hc 6 _ rfl, by rw [← add_field _ _ 7 (by omega)]; exact hc 7 _ rfl, by rw [← add_field _ _ 8 (by omega)]; exact hc 8 _ rfl, l5, g5, l8, g8⟩

/-! #### struct type 54 -/
structure S54 where
  f0 : Int
  f1 : Int
  f2 : (List Int)
  f3 : S52
def z54 : S54 := ⟨(0 : Int), (0 : Int), ([] : List Int), z52⟩
def k54 : Kd S54 := Kd.iso (Kd.pair (Kd.int .i64) (Kd.pair (Kd.int .i64) (Kd.pair (Kd.slice 5 (Kd.int .u8)) k52))) (fun x : S54 => (x.f0, x.f1, x.f2, x.f3))
theorem k54_heap : Kd.Heap k54 := Kd.heap_iso _ (Kd.heap_pair (Kd.heap_int .i64) (Kd.heap_pair (Kd.heap_int .i64) (Kd.heap_pair (Kd.heap_slice 5 (Kd.heap_int .u8)) k52_heap)))
theorem k54_open {w : World} {x : S54} {cs : List Value} (h : k54.K w x cs) : ∃ A2 c2 A8 c8 A11 c11, cs = [.int .i64 x.f0, .int .i64 x.f1, .slice A2 x.f2.length c2, .int .i64 x.f3.f0, .int .i64 x.f3.f1, .int .i64 x.f3.f2, .int .i64 x.f3.f3, .int .i64 x.f3.f4.f0, .slice A8 x.f3.f4.f1.length c8, .string x.f3.f4.f2, .int .i64 x.f3.f4.f3, .slice A11 x.f3.f5.length c11] ∧ x.f2.length ≤ c2 ∧ (Kd.int .u8).C w A2 x.f2.length x.f2 ∧ x.f3.f4.f1.length ≤ c8 ∧ (Kd.int .u8).C w A8 x.f3.f4.f1.length x.f3.f4.f1 ∧ x.f3.f5.length ≤ c11 ∧ (Kd.int .u8).C w A11 x.f3.f5.length x.f3.f5 := by
  obtain ⟨_, _, rfl, rfl, ⟨_, _, rfl, rfl, ⟨_, _, rfl, ⟨A2, c2, rfl, l2, g2⟩, s3⟩⟩⟩ := h
  obtain ⟨A8, c8, A11, c11, rfl, l8, g8, l11, g11⟩ := k52_open s3
  exact ⟨A2, c2, A8, c8, A11, c11, rfl, l2, g2, l8, g8, l11, g11⟩
theorem k54_openM {w : World} {base : Nat} {ok : Nat → Prop} {x : S54} {cs : List Value} (h : k54.M w base ok x cs) : ∃ v2 v8 v11, cs = [.int .i64 x.f0, .int .i64 x.f1, v2, .int .i64 x.f3.f0, .int .i64 x.f3.f1, .int .i64 x.f3.f2, .int .i64 x.f3.f3, .int .i64 x.f3.f4.f0, v8, .string x.f3.f4.f2, .int .i64 x.f3.f4.f3, v11] ∧ (Kd.int .u8).R 5 w base ok v2 x.f2 ∧ (Kd.int .u8).R 5 w base ok v8 x.f3.f4.f1 ∧ (Kd.int .u8).R 5 w base ok v11 x.f3.f5 := by
  obtain ⟨_, _, rfl, rfl, ⟨_, _, rfl, rfl, ⟨_, _, rfl, ⟨v2, rfl, g2⟩, s3⟩⟩⟩ := h
  obtain ⟨v8, v11, rfl, g8, g11⟩ := k52_openM s3
  exact ⟨v2, v8, v11, rfl, g2, g8, g11⟩
theorem k54_mk (w : World) (x : S54) {A2 : Option Addr} {c2 : Nat} (l2 : x.f2.length ≤ c2) (g2 : (Kd.int .u8).C w A2 x.f2.length x.f2) {A8 : Option Addr} {c8 : Nat} (l8 : x.f3.f4.f1.length ≤ c8) (g8 : (Kd.int .u8).C w A8 x.f3.f4.f1.length x.f3.f4.f1) {A11 : Option Addr} {c11 : Nat} (l11 : x.f3.f5.length ≤ c11) (g11 : (Kd.int .u8).C w A11 x.f3.f5.length x.f3.f5) : k54.K w x [.int .i64 x.f0, .int .i64 x.f1, .slice A2 x.f2.length c2, .int .i64 x.f3.f0, .int .i64 x.f3.f1, .int .i64 x.f3.f2, .int .i64 x.f3.f3, .int .i64 x.f3.f4.f0, .slice A8 x.f3.f4.f1.length c8, .string x.f3.f4.f2, .int .i64 x.f3.f4.f3, .slice A11 x.f3.f5.length c11] := ⟨[.int .i64 x.f0], [.int .i64 x.f1, .slice A2 x.f2.length c2, .int .i64 x.f3.f0, .int .i64 x.f3.f1, .int .i64 x.f3.f2, .int .i64 x.f3.f3, .int .i64 x.f3.f4.f0, .slice A8 x.f3.f4.f1.length c8, .string x.f3.f4.f2, .int .i64 x.f3.f4.f3, .slice A11 x.f3.f5.length c11], rfl, rfl, ⟨[.int .i64 x.f1], [.slice A2 x.f2.length c2, .int .i64 x.f3.f0, .int .i64 x.f3.f1, .int .i64 x.f3.f2, .int .i64 x.f3.f3, .int .i64 x.f3.f4.f0, .slice A8 x.f3.f4.f1.length c8, .string x.f3.f4.f2, .int .i64 x.f3.f4.f3, .slice A11 x.f3.f5.length c11], rfl, rfl, ⟨[.slice A2 x.f2.length c2], [.int .i64 x.f3.f0, .int .i64 x.f3.f1, .int .i64 x.f3.f2, .int .i64 x.f3.f3, .int .i64 x.f3.f4.f0, .slice A8 x.f3.f4.f1.length c8, .string x.f3.f4.f2, .int .i64 x.f3.f4.f3, .slice A11 x.f3.f5.length c11], rfl, ⟨A2, c2, rfl, l2, g2⟩, (k52_mk w x.f3 l8 g8 l11 g11)⟩⟩⟩
theorem k54_mkM (w : World) (base : Nat) (ok : Nat → Prop) (x : S54) {v2 : Value} (g2 : (Kd.int .u8).R 5 w base ok v2 x.f2) {v8 : Value} (g8 : (Kd.int .u8).R 5 w base ok v8 x.f3.f4.f1) {v11 : Value} (g11 : (Kd.int .u8).R 5 w base ok v11 x.f3.f5) : k54.M w base ok x [.int .i64 x.f0, .int .i64 x.f1, v2, .int .i64 x.f3.f0, .int .i64 x.f3.f1, .int .i64 x.f3.f2, .int .i64 x.f3.f3, .int .i64 x.f3.f4.f0, v8, .string x.f3.f4.f2, .int .i64 x.f3.f4.f3, v11] := ⟨[.int .i64 x.f0], [.int .i64 x.f1, v2, .int .i64 x.f3.f0, .int .i64 x.f3.f1, .int .i64 x.f3.f2, .int .i64 x.f3.f3, .int .i64 x.f3.f4.f0, v8, .string x.f3.f4.f2, .int .i64 x.f3.f4.f3, v11], rfl, rfl, ⟨[.int .i64 x.f1], [v2, .int .i64 x.f3.f0, .int .i64 x.f3.f1, .int .i64 x.f3.f2, .int .i64 x.f3.f3, .int .i64 x.f3.f4.f0, v8, .string x.f3.f4.f2, .int .i64 x.f3.f4.f3, v11], rfl, rfl, ⟨[v2], [.int .i64 x.f3.f0, .int .i64 x.f3.f1, .int .i64 x.f3.f2, .int .i64 x.f3.f3, .int .i64 x.f3.f4.f0, v8, .string x.f3.f4.f2, .int .i64 x.f3.f4.f3, v11], rfl, ⟨v2, rfl, g2⟩, (k52_mkM w base ok x.f3 g8 g11)⟩⟩⟩
theorem k54_openF {W : World} {ok : Nat → Prop} {x : S54} {cs : List Value} (h : Kd.FK k54 W ok x cs) : ∃ A2 c2 A8 c8 A11 c11, cs = [.int .i64 x.f0, .int .i64 x.f1, .slice A2 x.f2.length c2, .int .i64 x.f3.f0, .int .i64 x.f3.f1, .int .i64 x.f3.f2, .int .i64 x.f3.f3, .int .i64 x.f3.f4.f0, .slice A8 x.f3.f4.f1.length c8, .string x.f3.f4.f2, .int .i64 x.f3.f4.f3, .slice A11 x.f3.f5.length c11] ∧ x.f2.length ≤ c2 ∧ Kd.F (Kd.int .u8) W ok A2 x.f2.length x.f2 ∧ x.f3.f4.f1.length ≤ c8 ∧ Kd.F (Kd.int .u8) W ok A8 x.f3.f4.f1.length x.f3.f4.f1 ∧ x.f3.f5.length ≤ c11 ∧ Kd.F (Kd.int .u8) W ok A11 x.f3.f5.length x.f3.f5 := by
  obtain ⟨A2, c2, A8, c8, A11, c11, rfl, l2, _, l8, _, l11, _⟩ := k54_open (Kd.FK_now h)
  exact ⟨A2, c2, A8, c8, A11, c11, rfl, l2, (fun W' hW => by obtain ⟨A2_, c2_, A8_, c8_, A11_, c11_, he, l2_, g2_, l8_, g8_, l11_, g11_⟩ := k54_open (h W' hW); injection (Option.some.inj (show some (Value.slice A2 x.f2.length c2) = some (Value.slice A2_ x.f2.length c2_) from congrArg (fun l => l[2]?) he)) with ha_ _ _; rw [ha_]; exact g2_), l8, (fun W' hW => by obtain ⟨A2_, c2_, A8_, c8_, A11_, c11_, he, l2_, g2_, l8_, g8_, l11_, g11_⟩ := k54_open (h W' hW); injection (Option.some.inj (show some (Value.slice A8 x.f3.f4.f1.length c8) = some (Value.slice A8_ x.f3.f4.f1.length c8_) from congrArg (fun l => l[8]?) he)) with ha_ _ _; rw [ha_]; exact g8_), l11, (fun W' hW => by obtain ⟨A2_, c2_, A8_, c8_, A11_, c11_, he, l2_, g2_, l8_, g8_, l11_, g11_⟩ := k54_open (h W' hW); injection (Option.some.inj (show some (Value.slice A11 x.f3.f5.length c11) = some (Value.slice A11_ x.f3.f5.length c11_) from congrArg (fun l => l[11]?) he)) with ha_ _ _; rw [ha_]; exact g11_)⟩
theorem k54_mkF (W : World) (ok : Nat → Prop) (x : S54) {A2 : Option Addr} {c2 : Nat} (l2 : x.f2.length ≤ c2) (g2 : Kd.F (Kd.int .u8) W ok A2 x.f2.length x.f2) {A8 : Option Addr} {c8 : Nat} (l8 : x.f3.f4.f1.length ≤ c8) (g8 : Kd.F (Kd.int .u8) W ok A8 x.f3.f4.f1.length x.f3.f4.f1) {A11 : Option Addr} {c11 : Nat} (l11 : x.f3.f5.length ≤ c11) (g11 : Kd.F (Kd.int .u8) W ok A11 x.f3.f5.length x.f3.f5) : Kd.FK k54 W ok x [.int .i64 x.f0, .int .i64 x.f1, .slice A2 x.f2.length c2, .int .i64 x.f3.f0, .int .i64 x.f3.f1, .int .i64 x.f3.f2, .int .i64 x.f3.f3, .int .i64 x.f3.f4.f0, .slice A8 x.f3.f4.f1.length c8, .string x.f3.f4.f2, .int .i64 x.f3.f4.f3, .slice A11 x.f3.f5.length c11] := fun W2 hW => k54_mk W2 x l2 (g2 W2 hW) l8 (g8 W2 hW) l11 (g11 W2 hW)
def rd_T54 (xs : List S54) (i : Int) : S54 := xs.getD i.toNat z54
theorem at_T54 {w : World} {A : Option Addr} {n : Nat} {xs : List S54} (h : Kd.C k54 w A n xs) (i : Int) (h0 : 0 ≤ i) (h1 : i < n) : ∃ ad A2 c2 A8 c8 A11 c11, A = some ad ∧ w.cell? (ad.add (i.toNat * 12)) = some (.int .i64 (rd_T54 xs i).f0) ∧ w.cell? ⟨(ad.add (i.toNat * 12)).block, (ad.add (i.toNat * 12)).off + 1, none⟩ = some (.int .i64 (rd_T54 xs i).f1) ∧ w.cell? ⟨(ad.add (i.toNat * 12)).block, (ad.add (i.toNat * 12)).off + 2, none⟩ = some (.slice A2 (rd_T54 xs i).f2.length c2) ∧ w.cell? ⟨(ad.add (i.toNat * 12)).block, (ad.add (i.toNat * 12)).off + 3, none⟩ = some (.int .i64 (rd_T54 xs i).f3.f0) ∧ w.cell? ⟨(ad.add (i.toNat * 12)).block, (ad.add (i.toNat * 12)).off + 4, none⟩ = some (.int .i64 (rd_T54 xs i).f3.f1) ∧ w.cell? ⟨(ad.add (i.toNat * 12)).block, (ad.add (i.toNat * 12)).off + 5, none⟩ = some (.int .i64 (rd_T54 xs i).f3.f2) ∧ w.cell? ⟨(ad.add (i.toNat * 12)).block, (ad.add (i.toNat * 12)).off + 6, none⟩ = some (.int .i64 (rd_T54 xs i).f3.f3) ∧ w.cell? ⟨(ad.add (i.toNat * 12)).block, (ad.add (i.toNat * 12)).off + 7, none⟩ = some (.int .i64 (rd_T54 xs i).f3.f4.f0) ∧ w.cell? ⟨(ad.add (i.toNat * 12)).block, (ad.add (i.toNat * 12)).off + 8, none⟩ = some (.slice A8 (rd_T54 xs i).f3.f4.f1.length c8) ∧ w.cell? ⟨(ad.add (i.toNat * 12)).block, (ad.add (i.toNat * 12)).off + 9, none⟩ = some (.string (rd_T54 xs i).f3.f4.f2) ∧ w.cell? ⟨(ad.add (i.toNat * 12)).block, (ad.add (i.toNat * 12)).off + 10, none⟩ = some (.int .i64 (rd_T54 xs i).f3.f4.f3) ∧ w.cell? ⟨(ad.add (i.toNat * 12)).block, (ad.add (i.toNat * 12)).off + 11, none⟩ = some (.slice A11 (rd_T54 xs i).f3.f5.length c11) ∧ (rd_T54 xs i).f2.length ≤ c2 ∧ (Kd.int .u8).C w A2 (rd_T54 xs i).f2.length (rd_T54 xs i).f2 ∧ (rd_T54 xs i).f3.f4.f1.length ≤ c8 ∧ (Kd.int .u8).C w A8 (rd_T54 xs i).f3.f4.f1.length (rd_T54 xs i).f3.f4.f1 ∧ (rd_T54 xs i).f3.f5.length ≤ c11 ∧ (Kd.int .u8).C w A11 (rd_T54 xs i).f3.f5.length (rd_T54 xs i).f3.f5 := by
  obtain ⟨ad, c, e, _, hK, hc0⟩ := Kd.C_get h z54 i h0 h1
  have hc : ∀ j u, c[j]? = some u → w.cell? (ad.add (i.toNat * 12 + j)) = some u := hc0
  obtain ⟨A2, c2, A8, c8, A11, c11, rfl, l2, g2, l8, g8, l11, g11⟩ := k54_open hK
  exact ⟨ad, A2, c2, A8, c8, A11, c11, e, hc 0 _ rfl, by rw [← add_field _ _ 1 (by omega)]; exact hc 1 _ rfl, by rw [← add_field _ _ 2 (by omega)]; exact hc 2 _ rfl, by rw [← add_field _ _ 3 (by omega)]; exact hc 3 _ rfl, by rw [← add_field _ _ 4 (by omega)]; exact hc 4 _ rfl, by rw [← add_field _ _ 5 (by omega)]; exact hc 5 _ rfl, by rw [← add_field _ _ 6 (by omega)]; exact hc 6 _ rfl, by rw [← add_field _ _ 7 (by omega)]; exact hc 7 _ rfl, by rw [← add_field _ _ 8 (by omega)]; exact hc 8 _ rfl, by rw [← add_field _ _ 9 (by omega)]; exact hc 9 _ rfl, by rw [← add_field _ _ 10 (by omega)]; exact hc 10 _ rfl, by rw [← add_field _ _ 11 (by omega)]; exact hc 11 _ rfl, l2, g2, l8, g8, l11, g11⟩


/-! ### A stream of the program (type 133), of the reference (type 67): what it is -/
structure St where
  id : Int
  left : Int
  others : Int
  wait : List Int
  ended : Bool
  told : Bool
  over : Bool
  cut : Bool
abbrev kB : Kd Int := Kd.int .u8

def IsStr (w : World) (ok : Nat → Prop) (g : Nat) (s : St) : Prop := ∃ gm v,
  w.heap[g]? = some (.cells #[.int .i64 s.id, .pointer (some ⟨gm, 0, none⟩), .int .i64 s.others, v, .bool s.ended, .bool s.told, .bool s.over, .bool s.cut] 133 (0, 0)) ∧
  w.heap[gm]? = some (.cells #[.int .i64 s.left] 172 (0, 0)) ∧ kB.Q 5 w 0 ok v s.wait ∧ ok g ∧ ok gm
def IsRef (w : World) (ok : Nat → Prop) (g : Nat) (s : St) : Prop := ∃ gm v,
  w.heap[g]? = some (.cells #[.int .i64 s.id, .int .i64 s.others, .pointer (some ⟨gm, 0, none⟩), v, .bool s.ended, .bool s.told, .bool s.over, .bool s.cut] 67 (0, 0)) ∧
  w.heap[gm]? = some (.cells #[.int .i64 s.left] 174 (0, 0)) ∧ kB.Q 5 w 0 ok v s.wait ∧ ok g ∧ ok gm
end Go.Proofs.Ytcdhgpodoigddaa
