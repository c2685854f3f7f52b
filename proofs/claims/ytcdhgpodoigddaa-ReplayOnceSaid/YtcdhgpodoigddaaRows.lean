/-
  No cell of these rows narrows 'for every input' (looked for: loops, veiled, ifaces, maps, wideKeys, modest, calm, conditions, laid).
  DERIVED. THE GIVEN ROWS OF THIS SEAT. 13 by the template 'for every input the law returns true; each argument reads behind the call as it read before'; 0 by the template 'total and deterministic' (their statements: YtcdhgpodoigddaaTotals.lean).
  GIVEN WITH THE SEED: the statements are not yours to turn. If you find one false, say at which input.
  Laid BY PROGRAM, IN A SANDBOX (cutbox-rows.mjs): the forced cells as the released guide's own fill.sh prints them over the translation fbea4869379382be… (all of the seat's roots in one cut). By AI agents, Wed Nov 11 2026. No macro, syntax, notation, axiom, sorry.
-/
import Derived.Test.YtcdhgpodoigddaaChecked
import GoSem.Claim
import GoSem.ClaimJoined
import GoSem.ClaimMapViews
import Derived.JoinedTies
import Derived.KernelRfl
namespace Go.Proofs.Ytcdhgpodoigddaa
/- THE CELL 'sum', in the pinned program and in every row, IS THE sha256 OF THE DUMP (.gsa) THAT YtcdhgpodoigddaaProg.lean LOADS. Nothing in Lean hashes anything: it is a label: what it is worth is what the hold of that sum in a sandbox is worth. -/
noncomputable def Try.pinned : Pinned := { name := "ytcdhgpodoigddaa", sum := "fbea4869379382be9ca5b088426d3326f872ccdade785ba000985fea8ec3ec91", checked := Try.checked }
namespace Rows
def none {H : Type} : Left H := { results := [], args := [] }

/-- 'sapperlaw16.ReplayPlays': WHATEVER THE INPUT: true; the input reads as it did. -/
def replayPlaysSpec : ChangeSpec := { name := "replayPlays", fn := fun _ => fun
  | [d1, d2, d3, d4] => { results := [.lit (.bool true)], args := [d1, d2, d3, d4] }
  | _ => none }
def replayPlaysRow : OpenClaim := { program := "ytcdhgpodoigddaa", sum := "fbea4869379382be9ca5b088426d3326f872ccdade785ba000985fea8ec3ec91", func := "sapper/sapperlaw16.ReplayPlays", spec := "replayPlays", unfollowed := true, recurses := true, apart := false }
def ReplayPlaysSaid : Prop := replayPlaysRow.holds Try.pinned (OpenSpec.ofChange replayPlaysSpec)

/-- ITS FALSE NEIGHBOUR: 'it returns false'. Refute it at one input. -/
def replayPlaysWrong : ChangeSpec := { name := "replayPlays", fn := fun _ => fun
  | [d1, d2, d3, d4] => { results := [.lit (.bool false)], args := [d1, d2, d3, d4] }
  | _ => none }
def ReplayPlaysWrongFalsely : Prop := replayPlaysRow.holds Try.pinned (OpenSpec.ofChange replayPlaysWrong)

/-- 'sapperlaw16.ReplayOnce': WHATEVER THE INPUT: true; the input reads as it did. -/
def replayOnceSpec : ChangeSpec := { name := "replayOnce", fn := fun _ => fun
  | [d1, d2, d3] => { results := [.lit (.bool true)], args := [d1, d2, d3] }
  | _ => none }
def replayOnceRow : OpenClaim := { program := "ytcdhgpodoigddaa", sum := "fbea4869379382be9ca5b088426d3326f872ccdade785ba000985fea8ec3ec91", func := "sapper/sapperlaw16.ReplayOnce", spec := "replayOnce", unfollowed := true, recurses := true, apart := false }
def ReplayOnceSaid : Prop := replayOnceRow.holds Try.pinned (OpenSpec.ofChange replayOnceSpec)

/-- ITS FALSE NEIGHBOUR: 'it returns false'. Refute it at one input. -/
def replayOnceWrong : ChangeSpec := { name := "replayOnce", fn := fun _ => fun
  | [d1, d2, d3] => { results := [.lit (.bool false)], args := [d1, d2, d3] }
  | _ => none }
def ReplayOnceWrongFalsely : Prop := replayOnceRow.holds Try.pinned (OpenSpec.ofChange replayOnceWrong)

/-- 'sapperlaw20.StreamPlays': WHATEVER THE INPUT: true; the input reads as it did. -/
def streamPlaysSpec : ChangeSpec := { name := "streamPlays", fn := fun _ => fun
  | [d1, d2, d3] => { results := [.lit (.bool true)], args := [d1, d2, d3] }
  | _ => none }
def streamPlaysRow : OpenClaim := { program := "ytcdhgpodoigddaa", sum := "fbea4869379382be9ca5b088426d3326f872ccdade785ba000985fea8ec3ec91", func := "sapper/sapperlaw20.StreamPlays", spec := "streamPlays", apart := false }
def StreamPlaysSaid : Prop := streamPlaysRow.holds Try.pinned (OpenSpec.ofChange streamPlaysSpec)

/-- ITS FALSE NEIGHBOUR: 'it returns false'. Refute it at one input. -/
def streamPlaysWrong : ChangeSpec := { name := "streamPlays", fn := fun _ => fun
  | [d1, d2, d3] => { results := [.lit (.bool false)], args := [d1, d2, d3] }
  | _ => none }
def StreamPlaysWrongFalsely : Prop := streamPlaysRow.holds Try.pinned (OpenSpec.ofChange streamPlaysWrong)

/-- 'sapperlaw21.MuxRoom': WHATEVER THE INPUT: true; the input reads as it did. -/
def muxRoomSpec : ChangeSpec := { name := "muxRoom", fn := fun _ => fun
  | [d1, d2] => { results := [.lit (.bool true)], args := [d1, d2] }
  | _ => none }
def muxRoomRow : OpenClaim := { program := "ytcdhgpodoigddaa", sum := "fbea4869379382be9ca5b088426d3326f872ccdade785ba000985fea8ec3ec91", func := "sapper/sapperlaw21.MuxRoom", spec := "muxRoom", unfollowed := true, recurses := true, apart := false }
def MuxRoomSaid : Prop := muxRoomRow.holds Try.pinned (OpenSpec.ofChange muxRoomSpec)

/-- ITS FALSE NEIGHBOUR: 'it returns false'. Refute it at one input. -/
def muxRoomWrong : ChangeSpec := { name := "muxRoom", fn := fun _ => fun
  | [d1, d2] => { results := [.lit (.bool false)], args := [d1, d2] }
  | _ => none }
def MuxRoomWrongFalsely : Prop := muxRoomRow.holds Try.pinned (OpenSpec.ofChange muxRoomWrong)

/-- 'sapperlaw21.MuxNil': WHATEVER THE INPUT: true; the input reads as it did. -/
def muxNilSpec : ChangeSpec := { name := "muxNil", fn := fun _ => fun
  | [d] => { results := [.lit (.bool true)], args := [d] }
  | _ => none }
def muxNilRow : OpenClaim := { program := "ytcdhgpodoigddaa", sum := "fbea4869379382be9ca5b088426d3326f872ccdade785ba000985fea8ec3ec91", func := "sapper/sapperlaw21.MuxNil", spec := "muxNil", unfollowed := true, recurses := true, apart := false }
def MuxNilSaid : Prop := muxNilRow.holds Try.pinned (OpenSpec.ofChange muxNilSpec)

/-- ITS FALSE NEIGHBOUR: 'it returns false'. Refute it at one input. -/
def muxNilWrong : ChangeSpec := { name := "muxNil", fn := fun _ => fun
  | [d] => { results := [.lit (.bool false)], args := [d] }
  | _ => none }
def MuxNilWrongFalsely : Prop := muxNilRow.holds Try.pinned (OpenSpec.ofChange muxNilWrong)

/-- 'sapperlaw15.RingForms': WHATEVER THE INPUT: true; the input reads as it did. -/
def ringFormsSpec : ChangeSpec := { name := "ringForms", fn := fun _ => fun
  | [d1, d2, d3] => { results := [.lit (.bool true)], args := [d1, d2, d3] }
  | _ => none }
def ringFormsRow : OpenClaim := { program := "ytcdhgpodoigddaa", sum := "fbea4869379382be9ca5b088426d3326f872ccdade785ba000985fea8ec3ec91", func := "sapper/sapperlaw15.RingForms", spec := "ringForms", unfollowed := true, recurses := true, apart := false }
def RingFormsSaid : Prop := ringFormsRow.holds Try.pinned (OpenSpec.ofChange ringFormsSpec)

/-- ITS FALSE NEIGHBOUR: 'it returns false'. Refute it at one input. -/
def ringFormsWrong : ChangeSpec := { name := "ringForms", fn := fun _ => fun
  | [d1, d2, d3] => { results := [.lit (.bool false)], args := [d1, d2, d3] }
  | _ => none }
def RingFormsWrongFalsely : Prop := ringFormsRow.holds Try.pinned (OpenSpec.ofChange ringFormsWrong)

/-- 'sapperlaw15.RingNil': WHATEVER THE INPUT: true; the input reads as it did. -/
def ringNilSpec : ChangeSpec := { name := "ringNil", fn := fun _ => fun
  | [d] => { results := [.lit (.bool true)], args := [d] }
  | _ => none }
def ringNilRow : OpenClaim := { program := "ytcdhgpodoigddaa", sum := "fbea4869379382be9ca5b088426d3326f872ccdade785ba000985fea8ec3ec91", func := "sapper/sapperlaw15.RingNil", spec := "ringNil", unfollowed := true, recurses := true, apart := false }
def RingNilSaid : Prop := ringNilRow.holds Try.pinned (OpenSpec.ofChange ringNilSpec)

/-- ITS FALSE NEIGHBOUR: 'it returns false'. Refute it at one input. -/
def ringNilWrong : ChangeSpec := { name := "ringNil", fn := fun _ => fun
  | [d] => { results := [.lit (.bool false)], args := [d] }
  | _ => none }
def RingNilWrongFalsely : Prop := ringNilRow.holds Try.pinned (OpenSpec.ofChange ringNilWrong)

/-- 'sapperlaw15.RingOwn': WHATEVER THE INPUT: true; the input reads as it did. -/
def ringOwnSpec : ChangeSpec := { name := "ringOwn", fn := fun _ => fun
  | [d1, d2] => { results := [.lit (.bool true)], args := [d1, d2] }
  | _ => none }
def ringOwnRow : OpenClaim := { program := "ytcdhgpodoigddaa", sum := "fbea4869379382be9ca5b088426d3326f872ccdade785ba000985fea8ec3ec91", func := "sapper/sapperlaw15.RingOwn", spec := "ringOwn", unfollowed := true, recurses := true, apart := false }
def RingOwnSaid : Prop := ringOwnRow.holds Try.pinned (OpenSpec.ofChange ringOwnSpec)

/-- ITS FALSE NEIGHBOUR: 'it returns false'. Refute it at one input. -/
def ringOwnWrong : ChangeSpec := { name := "ringOwn", fn := fun _ => fun
  | [d1, d2] => { results := [.lit (.bool false)], args := [d1, d2] }
  | _ => none }
def RingOwnWrongFalsely : Prop := ringOwnRow.holds Try.pinned (OpenSpec.ofChange ringOwnWrong)

/-- 'sapperlaw15.RingOrder': WHATEVER THE INPUT: true; the input reads as it did. -/
def ringOrderSpec : ChangeSpec := { name := "ringOrder", fn := fun _ => fun
  | [d1, d2] => { results := [.lit (.bool true)], args := [d1, d2] }
  | _ => none }
def ringOrderRow : OpenClaim := { program := "ytcdhgpodoigddaa", sum := "fbea4869379382be9ca5b088426d3326f872ccdade785ba000985fea8ec3ec91", func := "sapper/sapperlaw15.RingOrder", spec := "ringOrder", unfollowed := true, recurses := true, apart := false }
def RingOrderSaid : Prop := ringOrderRow.holds Try.pinned (OpenSpec.ofChange ringOrderSpec)

/-- ITS FALSE NEIGHBOUR: 'it returns false'. Refute it at one input. -/
def ringOrderWrong : ChangeSpec := { name := "ringOrder", fn := fun _ => fun
  | [d1, d2] => { results := [.lit (.bool false)], args := [d1, d2] }
  | _ => none }
def RingOrderWrongFalsely : Prop := ringOrderRow.holds Try.pinned (OpenSpec.ofChange ringOrderWrong)

/-- 'sapperlaw21.MuxApart': WHATEVER THE INPUT: true; the input reads as it did. -/
def muxApartSpec : ChangeSpec := { name := "muxApart", fn := fun _ => fun
  | [d1, d2, d3, d4, d5] => { results := [.lit (.bool true)], args := [d1, d2, d3, d4, d5] }
  | _ => none }
def muxApartRow : OpenClaim := { program := "ytcdhgpodoigddaa", sum := "fbea4869379382be9ca5b088426d3326f872ccdade785ba000985fea8ec3ec91", func := "sapper/sapperlaw21.MuxApart", spec := "muxApart", unfollowed := true, recurses := true, apart := false }
def MuxApartSaid : Prop := muxApartRow.holds Try.pinned (OpenSpec.ofChange muxApartSpec)

/-- ITS FALSE NEIGHBOUR: 'it returns false'. Refute it at one input. -/
def muxApartWrong : ChangeSpec := { name := "muxApart", fn := fun _ => fun
  | [d1, d2, d3, d4, d5] => { results := [.lit (.bool false)], args := [d1, d2, d3, d4, d5] }
  | _ => none }
def MuxApartWrongFalsely : Prop := muxApartRow.holds Try.pinned (OpenSpec.ofChange muxApartWrong)

/-- 'sapperlaw21.MuxPacks': WHATEVER THE INPUT: true; the input reads as it did. -/
def muxPacksSpec : ChangeSpec := { name := "muxPacks", fn := fun _ => fun
  | [d] => { results := [.lit (.bool true)], args := [d] }
  | _ => none }
def muxPacksRow : OpenClaim := { program := "ytcdhgpodoigddaa", sum := "fbea4869379382be9ca5b088426d3326f872ccdade785ba000985fea8ec3ec91", func := "sapper/sapperlaw21.MuxPacks", spec := "muxPacks", unfollowed := true, recurses := true, apart := false }
def MuxPacksSaid : Prop := muxPacksRow.holds Try.pinned (OpenSpec.ofChange muxPacksSpec)

/-- ITS FALSE NEIGHBOUR: 'it returns false'. Refute it at one input. -/
def muxPacksWrong : ChangeSpec := { name := "muxPacks", fn := fun _ => fun
  | [d] => { results := [.lit (.bool false)], args := [d] }
  | _ => none }
def MuxPacksWrongFalsely : Prop := muxPacksRow.holds Try.pinned (OpenSpec.ofChange muxPacksWrong)

/-- 'sapperlaw21.MuxPlays': WHATEVER THE INPUT: true; the input reads as it did. -/
def muxPlaysSpec : ChangeSpec := { name := "muxPlays", fn := fun _ => fun
  | [d1, d2, d3, d4] => { results := [.lit (.bool true)], args := [d1, d2, d3, d4] }
  | _ => none }
def muxPlaysRow : OpenClaim := { program := "ytcdhgpodoigddaa", sum := "fbea4869379382be9ca5b088426d3326f872ccdade785ba000985fea8ec3ec91", func := "sapper/sapperlaw21.MuxPlays", spec := "muxPlays", unfollowed := true, recurses := true, apart := false }
def MuxPlaysSaid : Prop := muxPlaysRow.holds Try.pinned (OpenSpec.ofChange muxPlaysSpec)

/-- ITS FALSE NEIGHBOUR: 'it returns false'. Refute it at one input. -/
def muxPlaysWrong : ChangeSpec := { name := "muxPlays", fn := fun _ => fun
  | [d1, d2, d3, d4] => { results := [.lit (.bool false)], args := [d1, d2, d3, d4] }
  | _ => none }
def MuxPlaysWrongFalsely : Prop := muxPlaysRow.holds Try.pinned (OpenSpec.ofChange muxPlaysWrong)

/-- 'sapperlaw21.MuxWhole': WHATEVER THE INPUT: true; the input reads as it did. -/
def muxWholeSpec : ChangeSpec := { name := "muxWhole", fn := fun _ => fun
  | [d] => { results := [.lit (.bool true)], args := [d] }
  | _ => none }
def muxWholeRow : OpenClaim := { program := "ytcdhgpodoigddaa", sum := "fbea4869379382be9ca5b088426d3326f872ccdade785ba000985fea8ec3ec91", func := "sapper/sapperlaw21.MuxWhole", spec := "muxWhole", unfollowed := true, recurses := true, apart := false }
def MuxWholeSaid : Prop := muxWholeRow.holds Try.pinned (OpenSpec.ofChange muxWholeSpec)

/-- ITS FALSE NEIGHBOUR: 'it returns false'. Refute it at one input. -/
def muxWholeWrong : ChangeSpec := { name := "muxWhole", fn := fun _ => fun
  | [d] => { results := [.lit (.bool false)], args := [d] }
  | _ => none }
def MuxWholeWrongFalsely : Prop := muxWholeRow.holds Try.pinned (OpenSpec.ofChange muxWholeWrong)

/- THE SECOND FORM. 'bulk': how many values and letters a reading holds, each counted each time it is reached (what is shared counts as often as it is met; a slice's spare places count too). A statement '..UptoSaid' is the law's where the arguments, and the package variables that the reading takes, are together of bulk at most 1048576: NARROWER than '..Said'. Prove '..Said' where nothing that the law and all that it calls make is longer than what came in: it says more and counts as full. Else prove '..UptoSaid'. A law counts once. -/
mutual
def uptoBulk {H : Type} : DataW H → Nat
  | .lit (.string bytes) => bytes.length + 1
  | .lit _ => 1
  | .nil => 1
  | .ptr d => uptoBulk d + 1
  | .slice elems spare => uptoBulkAll elems + uptoBulkAll spare + 1
  | .agg parts => uptoBulkAll parts + 1
  | .iface _ d => uptoBulk d + 1
  | .map entries => uptoBulkEntries entries + 1
  | .held _ => 1
def uptoBulkAll {H : Type} : List (DataW H) → Nat
  | [] => 0
  | d :: r => uptoBulk d + uptoBulkAll r
def uptoBulkEntries {H : Type} : List (Lit × DataW H) → Nat
  | [] => 0
  | x :: r => uptoBulkEntry x + uptoBulkEntries r
def uptoBulkEntry {H : Type} : Lit × DataW H → Nat
  | (.string bytes, d) => bytes.length + uptoBulk d + 1
  | (_, d) => uptoBulk d + 1
 end
def uptoSmall : (H : Type) → List (DataW H) → Bool := fun _ ds => decide (uptoBulkAll ds ≤ 1048576)
def OpenSpec.upto (s : _root_.Go.ChangeSpec) : _root_.Go.OpenSpec := { _root_.Go.OpenSpec.ofChange s with cond := some uptoSmall }

/-- 'sapperlaw16.ReplayPlays', WHERE WHAT IT READS IS OF BULK AT MOST 1048576: true; the input reads as it did. -/
def replayPlaysUptoRow : OpenClaim := { program := "ytcdhgpodoigddaa", sum := "fbea4869379382be9ca5b088426d3326f872ccdade785ba000985fea8ec3ec91", func := "sapper/sapperlaw16.ReplayPlays", spec := "replayPlays", unfollowed := true, recurses := true, apart := false, narrowed := true }
def ReplayPlaysUptoSaid : Prop := replayPlaysUptoRow.holds Try.pinned (OpenSpec.upto replayPlaysSpec)

/-- 'sapperlaw16.ReplayOnce', WHERE WHAT IT READS IS OF BULK AT MOST 1048576: true; the input reads as it did. -/
def replayOnceUptoRow : OpenClaim := { program := "ytcdhgpodoigddaa", sum := "fbea4869379382be9ca5b088426d3326f872ccdade785ba000985fea8ec3ec91", func := "sapper/sapperlaw16.ReplayOnce", spec := "replayOnce", unfollowed := true, recurses := true, apart := false, narrowed := true }
def ReplayOnceUptoSaid : Prop := replayOnceUptoRow.holds Try.pinned (OpenSpec.upto replayOnceSpec)

/-- 'sapperlaw20.StreamPlays', WHERE WHAT IT READS IS OF BULK AT MOST 1048576: true; the input reads as it did. -/
def streamPlaysUptoRow : OpenClaim := { program := "ytcdhgpodoigddaa", sum := "fbea4869379382be9ca5b088426d3326f872ccdade785ba000985fea8ec3ec91", func := "sapper/sapperlaw20.StreamPlays", spec := "streamPlays", apart := false, narrowed := true }
def StreamPlaysUptoSaid : Prop := streamPlaysUptoRow.holds Try.pinned (OpenSpec.upto streamPlaysSpec)

/-- 'sapperlaw21.MuxRoom', WHERE WHAT IT READS IS OF BULK AT MOST 1048576: true; the input reads as it did. -/
def muxRoomUptoRow : OpenClaim := { program := "ytcdhgpodoigddaa", sum := "fbea4869379382be9ca5b088426d3326f872ccdade785ba000985fea8ec3ec91", func := "sapper/sapperlaw21.MuxRoom", spec := "muxRoom", unfollowed := true, recurses := true, apart := false, narrowed := true }
def MuxRoomUptoSaid : Prop := muxRoomUptoRow.holds Try.pinned (OpenSpec.upto muxRoomSpec)

/-- 'sapperlaw21.MuxNil', WHERE WHAT IT READS IS OF BULK AT MOST 1048576: true; the input reads as it did. -/
def muxNilUptoRow : OpenClaim := { program := "ytcdhgpodoigddaa", sum := "fbea4869379382be9ca5b088426d3326f872ccdade785ba000985fea8ec3ec91", func := "sapper/sapperlaw21.MuxNil", spec := "muxNil", unfollowed := true, recurses := true, apart := false, narrowed := true }
def MuxNilUptoSaid : Prop := muxNilUptoRow.holds Try.pinned (OpenSpec.upto muxNilSpec)

/-- 'sapperlaw15.RingForms', WHERE WHAT IT READS IS OF BULK AT MOST 1048576: true; the input reads as it did. -/
def ringFormsUptoRow : OpenClaim := { program := "ytcdhgpodoigddaa", sum := "fbea4869379382be9ca5b088426d3326f872ccdade785ba000985fea8ec3ec91", func := "sapper/sapperlaw15.RingForms", spec := "ringForms", unfollowed := true, recurses := true, apart := false, narrowed := true }
def RingFormsUptoSaid : Prop := ringFormsUptoRow.holds Try.pinned (OpenSpec.upto ringFormsSpec)

/-- 'sapperlaw15.RingNil', WHERE WHAT IT READS IS OF BULK AT MOST 1048576: true; the input reads as it did. -/
def ringNilUptoRow : OpenClaim := { program := "ytcdhgpodoigddaa", sum := "fbea4869379382be9ca5b088426d3326f872ccdade785ba000985fea8ec3ec91", func := "sapper/sapperlaw15.RingNil", spec := "ringNil", unfollowed := true, recurses := true, apart := false, narrowed := true }
def RingNilUptoSaid : Prop := ringNilUptoRow.holds Try.pinned (OpenSpec.upto ringNilSpec)

/-- 'sapperlaw15.RingOwn', WHERE WHAT IT READS IS OF BULK AT MOST 1048576: true; the input reads as it did. -/
def ringOwnUptoRow : OpenClaim := { program := "ytcdhgpodoigddaa", sum := "fbea4869379382be9ca5b088426d3326f872ccdade785ba000985fea8ec3ec91", func := "sapper/sapperlaw15.RingOwn", spec := "ringOwn", unfollowed := true, recurses := true, apart := false, narrowed := true }
def RingOwnUptoSaid : Prop := ringOwnUptoRow.holds Try.pinned (OpenSpec.upto ringOwnSpec)

/-- 'sapperlaw15.RingOrder', WHERE WHAT IT READS IS OF BULK AT MOST 1048576: true; the input reads as it did. -/
def ringOrderUptoRow : OpenClaim := { program := "ytcdhgpodoigddaa", sum := "fbea4869379382be9ca5b088426d3326f872ccdade785ba000985fea8ec3ec91", func := "sapper/sapperlaw15.RingOrder", spec := "ringOrder", unfollowed := true, recurses := true, apart := false, narrowed := true }
def RingOrderUptoSaid : Prop := ringOrderUptoRow.holds Try.pinned (OpenSpec.upto ringOrderSpec)

/-- 'sapperlaw21.MuxApart', WHERE WHAT IT READS IS OF BULK AT MOST 1048576: true; the input reads as it did. -/
def muxApartUptoRow : OpenClaim := { program := "ytcdhgpodoigddaa", sum := "fbea4869379382be9ca5b088426d3326f872ccdade785ba000985fea8ec3ec91", func := "sapper/sapperlaw21.MuxApart", spec := "muxApart", unfollowed := true, recurses := true, apart := false, narrowed := true }
def MuxApartUptoSaid : Prop := muxApartUptoRow.holds Try.pinned (OpenSpec.upto muxApartSpec)

/-- 'sapperlaw21.MuxPacks', WHERE WHAT IT READS IS OF BULK AT MOST 1048576: true; the input reads as it did. -/
def muxPacksUptoRow : OpenClaim := { program := "ytcdhgpodoigddaa", sum := "fbea4869379382be9ca5b088426d3326f872ccdade785ba000985fea8ec3ec91", func := "sapper/sapperlaw21.MuxPacks", spec := "muxPacks", unfollowed := true, recurses := true, apart := false, narrowed := true }
def MuxPacksUptoSaid : Prop := muxPacksUptoRow.holds Try.pinned (OpenSpec.upto muxPacksSpec)

/-- 'sapperlaw21.MuxPlays', WHERE WHAT IT READS IS OF BULK AT MOST 1048576: true; the input reads as it did. -/
def muxPlaysUptoRow : OpenClaim := { program := "ytcdhgpodoigddaa", sum := "fbea4869379382be9ca5b088426d3326f872ccdade785ba000985fea8ec3ec91", func := "sapper/sapperlaw21.MuxPlays", spec := "muxPlays", unfollowed := true, recurses := true, apart := false, narrowed := true }
def MuxPlaysUptoSaid : Prop := muxPlaysUptoRow.holds Try.pinned (OpenSpec.upto muxPlaysSpec)

/-- 'sapperlaw21.MuxWhole', WHERE WHAT IT READS IS OF BULK AT MOST 1048576: true; the input reads as it did. -/
def muxWholeUptoRow : OpenClaim := { program := "ytcdhgpodoigddaa", sum := "fbea4869379382be9ca5b088426d3326f872ccdade785ba000985fea8ec3ec91", func := "sapper/sapperlaw21.MuxWhole", spec := "muxWhole", unfollowed := true, recurses := true, apart := false, narrowed := true }
def MuxWholeUptoSaid : Prop := muxWholeUptoRow.holds Try.pinned (OpenSpec.upto muxWholeSpec)

end Rows
end Go.Proofs.Ytcdhgpodoigddaa
