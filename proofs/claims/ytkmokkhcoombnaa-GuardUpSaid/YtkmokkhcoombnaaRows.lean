/-
  No cell of these rows narrows 'for every input' (looked for: loops, veiled, ifaces, maps, wideKeys, modest, calm, conditions, laid).
  DERIVED. THE GIVEN ROWS OF THIS SEAT. 18 by the template 'for every input the law returns true; each argument reads behind the call as it read before'; 0 by the template 'total and deterministic' (their statements: YtkmokkhcoombnaaTotals.lean).
  GIVEN WITH THE SEED: the statements are not yours to turn. If you find one false, say at which input.
  Laid BY PROGRAM, IN A SANDBOX (cutbox-rows.mjs): the forced cells as the released guide's own fill.sh prints them over the translation 459183b461ec9cca… (all of the seat's roots in one cut). By AI agents, Wed Nov 11 2026. No macro, syntax, notation, axiom, sorry.
-/
import Derived.Test.YtkmokkhcoombnaaChecked
import GoSem.Claim
import GoSem.ClaimJoined
import GoSem.ClaimMapViews
import Derived.JoinedTies
import Derived.KernelRfl
namespace Go.Proofs.Ytkmokkhcoombnaa
/- THE CELL 'sum', in the pinned program and in every row, IS THE sha256 OF THE DUMP (.gsa) THAT YtkmokkhcoombnaaProg.lean LOADS. Nothing in Lean hashes anything: it is a label: what it is worth is what the hold of that sum in a sandbox is worth. -/
noncomputable def Try.pinned : Pinned := { name := "ytkmokkhcoombnaa", sum := "459183b461ec9ccaec88e26909f643b01abc096ddeee89e836206a54e10bb147", checked := Try.checked }
namespace Rows
def none {H : Type} : Left H := { results := [], args := [] }

/-- 'mklaw5.WireTells': WHATEVER THE INPUT: true; the input reads as it did. -/
def wireTellsSpec : ChangeSpec := { name := "wireTells", fn := fun _ => fun
  | [d1, d2, d3] => { results := [.lit (.bool true)], args := [d1, d2, d3] }
  | _ => none }
def wireTellsRow : OpenClaim := { program := "ytkmokkhcoombnaa", sum := "459183b461ec9ccaec88e26909f643b01abc096ddeee89e836206a54e10bb147", func := "mendkernel/mklaw5.WireTells", spec := "wireTells", unfollowed := true, recurses := true, apart := false }
def WireTellsSaid : Prop := wireTellsRow.holds Try.pinned (OpenSpec.ofChange wireTellsSpec)

/-- ITS FALSE NEIGHBOUR: 'it returns false'. Refute it at one input. -/
def wireTellsWrong : ChangeSpec := { name := "wireTells", fn := fun _ => fun
  | [d1, d2, d3] => { results := [.lit (.bool false)], args := [d1, d2, d3] }
  | _ => none }
def WireTellsWrongFalsely : Prop := wireTellsRow.holds Try.pinned (OpenSpec.ofChange wireTellsWrong)

/-- 'mklaw5.WireUnlike': WHATEVER THE INPUT: true; the input reads as it did. -/
def wireUnlikeSpec : ChangeSpec := { name := "wireUnlike", fn := fun _ => fun
  | [d1, d2, d3, d4] => { results := [.lit (.bool true)], args := [d1, d2, d3, d4] }
  | _ => none }
def wireUnlikeRow : OpenClaim := { program := "ytkmokkhcoombnaa", sum := "459183b461ec9ccaec88e26909f643b01abc096ddeee89e836206a54e10bb147", func := "mendkernel/mklaw5.WireUnlike", spec := "wireUnlike", unfollowed := true, recurses := true, apart := false }
def WireUnlikeSaid : Prop := wireUnlikeRow.holds Try.pinned (OpenSpec.ofChange wireUnlikeSpec)

/-- ITS FALSE NEIGHBOUR: 'it returns false'. Refute it at one input. -/
def wireUnlikeWrong : ChangeSpec := { name := "wireUnlike", fn := fun _ => fun
  | [d1, d2, d3, d4] => { results := [.lit (.bool false)], args := [d1, d2, d3, d4] }
  | _ => none }
def WireUnlikeWrongFalsely : Prop := wireUnlikeRow.holds Try.pinned (OpenSpec.ofChange wireUnlikeWrong)

/-- 'mklaw5.WireTurns': WHATEVER THE INPUT: true; the input reads as it did. -/
def wireTurnsSpec : ChangeSpec := { name := "wireTurns", fn := fun _ => fun
  | [d1, d2, d3] => { results := [.lit (.bool true)], args := [d1, d2, d3] }
  | _ => none }
def wireTurnsRow : OpenClaim := { program := "ytkmokkhcoombnaa", sum := "459183b461ec9ccaec88e26909f643b01abc096ddeee89e836206a54e10bb147", func := "mendkernel/mklaw5.WireTurns", spec := "wireTurns", unfollowed := true, recurses := true, apart := false }
def WireTurnsSaid : Prop := wireTurnsRow.holds Try.pinned (OpenSpec.ofChange wireTurnsSpec)

/-- ITS FALSE NEIGHBOUR: 'it returns false'. Refute it at one input. -/
def wireTurnsWrong : ChangeSpec := { name := "wireTurns", fn := fun _ => fun
  | [d1, d2, d3] => { results := [.lit (.bool false)], args := [d1, d2, d3] }
  | _ => none }
def WireTurnsWrongFalsely : Prop := wireTurnsRow.holds Try.pinned (OpenSpec.ofChange wireTurnsWrong)

/-- 'mklaw6.StoreTells': WHATEVER THE INPUT: true; the input reads as it did. -/
def storeTellsSpec : ChangeSpec := { name := "storeTells", fn := fun _ => fun
  | [d1, d2, d3, d4, d5] => { results := [.lit (.bool true)], args := [d1, d2, d3, d4, d5] }
  | _ => none }
def storeTellsRow : OpenClaim := { program := "ytkmokkhcoombnaa", sum := "459183b461ec9ccaec88e26909f643b01abc096ddeee89e836206a54e10bb147", func := "mendkernel/mklaw6.StoreTells", spec := "storeTells", apart := false }
def StoreTellsSaid : Prop := storeTellsRow.holds Try.pinned (OpenSpec.ofChange storeTellsSpec)

/-- ITS FALSE NEIGHBOUR: 'it returns false'. Refute it at one input. -/
def storeTellsWrong : ChangeSpec := { name := "storeTells", fn := fun _ => fun
  | [d1, d2, d3, d4, d5] => { results := [.lit (.bool false)], args := [d1, d2, d3, d4, d5] }
  | _ => none }
def StoreTellsWrongFalsely : Prop := storeTellsRow.holds Try.pinned (OpenSpec.ofChange storeTellsWrong)

/-- 'mklaw6.StoreLast': WHATEVER THE INPUT: true; the input reads as it did. -/
def storeLastSpec : ChangeSpec := { name := "storeLast", fn := fun _ => fun
  | [d1, d2, d3, d4] => { results := [.lit (.bool true)], args := [d1, d2, d3, d4] }
  | _ => none }
def storeLastRow : OpenClaim := { program := "ytkmokkhcoombnaa", sum := "459183b461ec9ccaec88e26909f643b01abc096ddeee89e836206a54e10bb147", func := "mendkernel/mklaw6.StoreLast", spec := "storeLast", apart := false }
def StoreLastSaid : Prop := storeLastRow.holds Try.pinned (OpenSpec.ofChange storeLastSpec)

/-- ITS FALSE NEIGHBOUR: 'it returns false'. Refute it at one input. -/
def storeLastWrong : ChangeSpec := { name := "storeLast", fn := fun _ => fun
  | [d1, d2, d3, d4] => { results := [.lit (.bool false)], args := [d1, d2, d3, d4] }
  | _ => none }
def StoreLastWrongFalsely : Prop := storeLastRow.holds Try.pinned (OpenSpec.ofChange storeLastWrong)

/-- 'mklaw6.StoreBack': WHATEVER THE INPUT: true; the input reads as it did. -/
def storeBackSpec : ChangeSpec := { name := "storeBack", fn := fun _ => fun
  | [d1, d2, d3, d4] => { results := [.lit (.bool true)], args := [d1, d2, d3, d4] }
  | _ => none }
def storeBackRow : OpenClaim := { program := "ytkmokkhcoombnaa", sum := "459183b461ec9ccaec88e26909f643b01abc096ddeee89e836206a54e10bb147", func := "mendkernel/mklaw6.StoreBack", spec := "storeBack", apart := false }
def StoreBackSaid : Prop := storeBackRow.holds Try.pinned (OpenSpec.ofChange storeBackSpec)

/-- ITS FALSE NEIGHBOUR: 'it returns false'. Refute it at one input. -/
def storeBackWrong : ChangeSpec := { name := "storeBack", fn := fun _ => fun
  | [d1, d2, d3, d4] => { results := [.lit (.bool false)], args := [d1, d2, d3, d4] }
  | _ => none }
def StoreBackWrongFalsely : Prop := storeBackRow.holds Try.pinned (OpenSpec.ofChange storeBackWrong)

/-- 'mklaw9.ClientTells': WHATEVER THE INPUT: true; the input reads as it did. -/
def clientTellsSpec : ChangeSpec := { name := "clientTells", fn := fun _ => fun
  | [d1, d2, d3, d4, d5, d6] => { results := [.lit (.bool true)], args := [d1, d2, d3, d4, d5, d6] }
  | _ => none }
def clientTellsRow : OpenClaim := { program := "ytkmokkhcoombnaa", sum := "459183b461ec9ccaec88e26909f643b01abc096ddeee89e836206a54e10bb147", func := "mendkernel/mklaw9.ClientTells", spec := "clientTells", unfollowed := true, recurses := true, apart := false }
def ClientTellsSaid : Prop := clientTellsRow.holds Try.pinned (OpenSpec.ofChange clientTellsSpec)

/-- ITS FALSE NEIGHBOUR: 'it returns false'. Refute it at one input. -/
def clientTellsWrong : ChangeSpec := { name := "clientTells", fn := fun _ => fun
  | [d1, d2, d3, d4, d5, d6] => { results := [.lit (.bool false)], args := [d1, d2, d3, d4, d5, d6] }
  | _ => none }
def ClientTellsWrongFalsely : Prop := clientTellsRow.holds Try.pinned (OpenSpec.ofChange clientTellsWrong)

/-- 'mklaw9.ClientAgain': WHATEVER THE INPUT: true; the input reads as it did. -/
def clientAgainSpec : ChangeSpec := { name := "clientAgain", fn := fun _ => fun
  | [d1, d2, d3, d4, d5] => { results := [.lit (.bool true)], args := [d1, d2, d3, d4, d5] }
  | _ => none }
def clientAgainRow : OpenClaim := { program := "ytkmokkhcoombnaa", sum := "459183b461ec9ccaec88e26909f643b01abc096ddeee89e836206a54e10bb147", func := "mendkernel/mklaw9.ClientAgain", spec := "clientAgain", unfollowed := true, recurses := true, apart := false }
def ClientAgainSaid : Prop := clientAgainRow.holds Try.pinned (OpenSpec.ofChange clientAgainSpec)

/-- ITS FALSE NEIGHBOUR: 'it returns false'. Refute it at one input. -/
def clientAgainWrong : ChangeSpec := { name := "clientAgain", fn := fun _ => fun
  | [d1, d2, d3, d4, d5] => { results := [.lit (.bool false)], args := [d1, d2, d3, d4, d5] }
  | _ => none }
def ClientAgainWrongFalsely : Prop := clientAgainRow.holds Try.pinned (OpenSpec.ofChange clientAgainWrong)

/-- 'mklaw9.ClientDeaf': WHATEVER THE INPUT: true; the input reads as it did. -/
def clientDeafSpec : ChangeSpec := { name := "clientDeaf", fn := fun _ => fun
  | [d1, d2, d3, d4] => { results := [.lit (.bool true)], args := [d1, d2, d3, d4] }
  | _ => none }
def clientDeafRow : OpenClaim := { program := "ytkmokkhcoombnaa", sum := "459183b461ec9ccaec88e26909f643b01abc096ddeee89e836206a54e10bb147", func := "mendkernel/mklaw9.ClientDeaf", spec := "clientDeaf", unfollowed := true, recurses := true, apart := false }
def ClientDeafSaid : Prop := clientDeafRow.holds Try.pinned (OpenSpec.ofChange clientDeafSpec)

/-- ITS FALSE NEIGHBOUR: 'it returns false'. Refute it at one input. -/
def clientDeafWrong : ChangeSpec := { name := "clientDeaf", fn := fun _ => fun
  | [d1, d2, d3, d4] => { results := [.lit (.bool false)], args := [d1, d2, d3, d4] }
  | _ => none }
def ClientDeafWrongFalsely : Prop := clientDeafRow.holds Try.pinned (OpenSpec.ofChange clientDeafWrong)

/-- 'mklaw1.CellTells': WHATEVER THE INPUT: true; the input reads as it did. -/
def cellTellsSpec : ChangeSpec := { name := "cellTells", fn := fun _ => fun
  | [d1, d2, d3] => { results := [.lit (.bool true)], args := [d1, d2, d3] }
  | _ => none }
def cellTellsRow : OpenClaim := { program := "ytkmokkhcoombnaa", sum := "459183b461ec9ccaec88e26909f643b01abc096ddeee89e836206a54e10bb147", func := "mendkernel/mklaw1.CellTells", spec := "cellTells", apart := false }
def CellTellsSaid : Prop := cellTellsRow.holds Try.pinned (OpenSpec.ofChange cellTellsSpec)

/-- ITS FALSE NEIGHBOUR: 'it returns false'. Refute it at one input. -/
def cellTellsWrong : ChangeSpec := { name := "cellTells", fn := fun _ => fun
  | [d1, d2, d3] => { results := [.lit (.bool false)], args := [d1, d2, d3] }
  | _ => none }
def CellTellsWrongFalsely : Prop := cellTellsRow.holds Try.pinned (OpenSpec.ofChange cellTellsWrong)

/-- 'mklaw1.CellApart': WHATEVER THE INPUT: true; the input reads as it did. -/
def cellApartSpec : ChangeSpec := { name := "cellApart", fn := fun _ => fun
  | [d1, d2, d3] => { results := [.lit (.bool true)], args := [d1, d2, d3] }
  | _ => none }
def cellApartRow : OpenClaim := { program := "ytkmokkhcoombnaa", sum := "459183b461ec9ccaec88e26909f643b01abc096ddeee89e836206a54e10bb147", func := "mendkernel/mklaw1.CellApart", spec := "cellApart", apart := false }
def CellApartSaid : Prop := cellApartRow.holds Try.pinned (OpenSpec.ofChange cellApartSpec)

/-- ITS FALSE NEIGHBOUR: 'it returns false'. Refute it at one input. -/
def cellApartWrong : ChangeSpec := { name := "cellApart", fn := fun _ => fun
  | [d1, d2, d3] => { results := [.lit (.bool false)], args := [d1, d2, d3] }
  | _ => none }
def CellApartWrongFalsely : Prop := cellApartRow.holds Try.pinned (OpenSpec.ofChange cellApartWrong)

/-- 'mklaw1.CellBack': WHATEVER THE INPUT: true; the input reads as it did. -/
def cellBackSpec : ChangeSpec := { name := "cellBack", fn := fun _ => fun
  | [d1, d2, d3] => { results := [.lit (.bool true)], args := [d1, d2, d3] }
  | _ => none }
def cellBackRow : OpenClaim := { program := "ytkmokkhcoombnaa", sum := "459183b461ec9ccaec88e26909f643b01abc096ddeee89e836206a54e10bb147", func := "mendkernel/mklaw1.CellBack", spec := "cellBack", apart := false }
def CellBackSaid : Prop := cellBackRow.holds Try.pinned (OpenSpec.ofChange cellBackSpec)

/-- ITS FALSE NEIGHBOUR: 'it returns false'. Refute it at one input. -/
def cellBackWrong : ChangeSpec := { name := "cellBack", fn := fun _ => fun
  | [d1, d2, d3] => { results := [.lit (.bool false)], args := [d1, d2, d3] }
  | _ => none }
def CellBackWrongFalsely : Prop := cellBackRow.holds Try.pinned (OpenSpec.ofChange cellBackWrong)

/-- 'mklaw8.GuardTells': WHATEVER THE INPUT: true; the input reads as it did. -/
def guardTellsSpec : ChangeSpec := { name := "guardTells", fn := fun _ => fun
  | [d1, d2, d3] => { results := [.lit (.bool true)], args := [d1, d2, d3] }
  | _ => none }
def guardTellsRow : OpenClaim := { program := "ytkmokkhcoombnaa", sum := "459183b461ec9ccaec88e26909f643b01abc096ddeee89e836206a54e10bb147", func := "mendkernel/mklaw8.GuardTells", spec := "guardTells", unfollowed := true, recurses := true, apart := false }
def GuardTellsSaid : Prop := guardTellsRow.holds Try.pinned (OpenSpec.ofChange guardTellsSpec)

/-- ITS FALSE NEIGHBOUR: 'it returns false'. Refute it at one input. -/
def guardTellsWrong : ChangeSpec := { name := "guardTells", fn := fun _ => fun
  | [d1, d2, d3] => { results := [.lit (.bool false)], args := [d1, d2, d3] }
  | _ => none }
def GuardTellsWrongFalsely : Prop := guardTellsRow.holds Try.pinned (OpenSpec.ofChange guardTellsWrong)

/-- 'mklaw8.GuardKeeps': WHATEVER THE INPUT: true; the input reads as it did. -/
def guardKeepsSpec : ChangeSpec := { name := "guardKeeps", fn := fun _ => fun
  | [d1, d2, d3] => { results := [.lit (.bool true)], args := [d1, d2, d3] }
  | _ => none }
def guardKeepsRow : OpenClaim := { program := "ytkmokkhcoombnaa", sum := "459183b461ec9ccaec88e26909f643b01abc096ddeee89e836206a54e10bb147", func := "mendkernel/mklaw8.GuardKeeps", spec := "guardKeeps", unfollowed := true, recurses := true, apart := false }
def GuardKeepsSaid : Prop := guardKeepsRow.holds Try.pinned (OpenSpec.ofChange guardKeepsSpec)

/-- ITS FALSE NEIGHBOUR: 'it returns false'. Refute it at one input. -/
def guardKeepsWrong : ChangeSpec := { name := "guardKeeps", fn := fun _ => fun
  | [d1, d2, d3] => { results := [.lit (.bool false)], args := [d1, d2, d3] }
  | _ => none }
def GuardKeepsWrongFalsely : Prop := guardKeepsRow.holds Try.pinned (OpenSpec.ofChange guardKeepsWrong)

/-- 'mklaw8.GuardUp': WHATEVER THE INPUT: true; the input reads as it did. -/
def guardUpSpec : ChangeSpec := { name := "guardUp", fn := fun _ => fun
  | [d1, d2] => { results := [.lit (.bool true)], args := [d1, d2] }
  | _ => none }
def guardUpRow : OpenClaim := { program := "ytkmokkhcoombnaa", sum := "459183b461ec9ccaec88e26909f643b01abc096ddeee89e836206a54e10bb147", func := "mendkernel/mklaw8.GuardUp", spec := "guardUp", unfollowed := true, recurses := true, apart := false }
def GuardUpSaid : Prop := guardUpRow.holds Try.pinned (OpenSpec.ofChange guardUpSpec)

/-- ITS FALSE NEIGHBOUR: 'it returns false'. Refute it at one input. -/
def guardUpWrong : ChangeSpec := { name := "guardUp", fn := fun _ => fun
  | [d1, d2] => { results := [.lit (.bool false)], args := [d1, d2] }
  | _ => none }
def GuardUpWrongFalsely : Prop := guardUpRow.holds Try.pinned (OpenSpec.ofChange guardUpWrong)

/-- 'mklaw2.ModelTells': WHATEVER THE INPUT: true; the input reads as it did. -/
def modelTellsSpec : ChangeSpec := { name := "modelTells", fn := fun _ => fun
  | [d1, d2, d3, d4] => { results := [.lit (.bool true)], args := [d1, d2, d3, d4] }
  | _ => none }
def modelTellsRow : OpenClaim := { program := "ytkmokkhcoombnaa", sum := "459183b461ec9ccaec88e26909f643b01abc096ddeee89e836206a54e10bb147", func := "mendkernel/mklaw2.ModelTells", spec := "modelTells", unfollowed := true, recurses := true, apart := false }
def ModelTellsSaid : Prop := modelTellsRow.holds Try.pinned (OpenSpec.ofChange modelTellsSpec)

/-- ITS FALSE NEIGHBOUR: 'it returns false'. Refute it at one input. -/
def modelTellsWrong : ChangeSpec := { name := "modelTells", fn := fun _ => fun
  | [d1, d2, d3, d4] => { results := [.lit (.bool false)], args := [d1, d2, d3, d4] }
  | _ => none }
def ModelTellsWrongFalsely : Prop := modelTellsRow.holds Try.pinned (OpenSpec.ofChange modelTellsWrong)

/-- 'mklaw2.ModelRight': WHATEVER THE INPUT: true; the input reads as it did. -/
def modelRightSpec : ChangeSpec := { name := "modelRight", fn := fun _ => fun
  | [d1, d2] => { results := [.lit (.bool true)], args := [d1, d2] }
  | _ => none }
def modelRightRow : OpenClaim := { program := "ytkmokkhcoombnaa", sum := "459183b461ec9ccaec88e26909f643b01abc096ddeee89e836206a54e10bb147", func := "mendkernel/mklaw2.ModelRight", spec := "modelRight", unfollowed := true, recurses := true, apart := false }
def ModelRightSaid : Prop := modelRightRow.holds Try.pinned (OpenSpec.ofChange modelRightSpec)

/-- ITS FALSE NEIGHBOUR: 'it returns false'. Refute it at one input. -/
def modelRightWrong : ChangeSpec := { name := "modelRight", fn := fun _ => fun
  | [d1, d2] => { results := [.lit (.bool false)], args := [d1, d2] }
  | _ => none }
def ModelRightWrongFalsely : Prop := modelRightRow.holds Try.pinned (OpenSpec.ofChange modelRightWrong)

/-- 'mklaw2.ModelSwap': WHATEVER THE INPUT: true; the input reads as it did. -/
def modelSwapSpec : ChangeSpec := { name := "modelSwap", fn := fun _ => fun
  | [d1, d2, d3] => { results := [.lit (.bool true)], args := [d1, d2, d3] }
  | _ => none }
def modelSwapRow : OpenClaim := { program := "ytkmokkhcoombnaa", sum := "459183b461ec9ccaec88e26909f643b01abc096ddeee89e836206a54e10bb147", func := "mendkernel/mklaw2.ModelSwap", spec := "modelSwap", unfollowed := true, recurses := true, apart := false }
def ModelSwapSaid : Prop := modelSwapRow.holds Try.pinned (OpenSpec.ofChange modelSwapSpec)

/-- ITS FALSE NEIGHBOUR: 'it returns false'. Refute it at one input. -/
def modelSwapWrong : ChangeSpec := { name := "modelSwap", fn := fun _ => fun
  | [d1, d2, d3] => { results := [.lit (.bool false)], args := [d1, d2, d3] }
  | _ => none }
def ModelSwapWrongFalsely : Prop := modelSwapRow.holds Try.pinned (OpenSpec.ofChange modelSwapWrong)

/- THE SECOND FORM. 'bulk': how many values and letters a reading holds, each counted each time it is reached (what is shared counts as often as it is met; a slice's spare places count too). A statement '..UptoSaid' is the law's where the arguments, and the package variables that the reading takes, are together of bulk at most 1048576: NARROWER than '..Said'. Prove '..Said' where nothing that the law and all that it calls make is longer than what came in: it says more and counts as full. Else prove '..UptoSaid'. A law counts once. -/
mutual
def uptoBulk {H : Type} : DataW H → Nat
  | .lit (.string bytes) => bytes.length + 1
  | .lit _ => 1
  | .nil => 1
  | .ptr d => uptoBulk d + 1
  | .slice elems spare => uptoBulkAll elems + uptoBulkAll spare + 1
  | .agg parts => uptoBulkAll parts + 1
  | .iface _ d => uptoBulk d + 1
  | .map entries => uptoBulkEntries entries + 1
  | .held _ => 1
def uptoBulkAll {H : Type} : List (DataW H) → Nat
  | [] => 0
  | d :: r => uptoBulk d + uptoBulkAll r
def uptoBulkEntries {H : Type} : List (Lit × DataW H) → Nat
  | [] => 0
  | x :: r => uptoBulkEntry x + uptoBulkEntries r
def uptoBulkEntry {H : Type} : Lit × DataW H → Nat
  | (.string bytes, d) => bytes.length + uptoBulk d + 1
  | (_, d) => uptoBulk d + 1
 end
def uptoSmall : (H : Type) → List (DataW H) → Bool := fun _ ds => decide (uptoBulkAll ds ≤ 1048576)
def OpenSpec.upto (s : _root_.Go.ChangeSpec) : _root_.Go.OpenSpec := { _root_.Go.OpenSpec.ofChange s with cond := some uptoSmall }

/-- 'mklaw5.WireTells', WHERE WHAT IT READS IS OF BULK AT MOST 1048576: true; the input reads as it did. -/
def wireTellsUptoRow : OpenClaim := { program := "ytkmokkhcoombnaa", sum := "459183b461ec9ccaec88e26909f643b01abc096ddeee89e836206a54e10bb147", func := "mendkernel/mklaw5.WireTells", spec := "wireTells", unfollowed := true, recurses := true, apart := false, narrowed := true }
def WireTellsUptoSaid : Prop := wireTellsUptoRow.holds Try.pinned (OpenSpec.upto wireTellsSpec)

/-- 'mklaw5.WireUnlike', WHERE WHAT IT READS IS OF BULK AT MOST 1048576: true; the input reads as it did. -/
def wireUnlikeUptoRow : OpenClaim := { program := "ytkmokkhcoombnaa", sum := "459183b461ec9ccaec88e26909f643b01abc096ddeee89e836206a54e10bb147", func := "mendkernel/mklaw5.WireUnlike", spec := "wireUnlike", unfollowed := true, recurses := true, apart := false, narrowed := true }
def WireUnlikeUptoSaid : Prop := wireUnlikeUptoRow.holds Try.pinned (OpenSpec.upto wireUnlikeSpec)

/-- 'mklaw5.WireTurns', WHERE WHAT IT READS IS OF BULK AT MOST 1048576: true; the input reads as it did. -/
def wireTurnsUptoRow : OpenClaim := { program := "ytkmokkhcoombnaa", sum := "459183b461ec9ccaec88e26909f643b01abc096ddeee89e836206a54e10bb147", func := "mendkernel/mklaw5.WireTurns", spec := "wireTurns", unfollowed := true, recurses := true, apart := false, narrowed := true }
def WireTurnsUptoSaid : Prop := wireTurnsUptoRow.holds Try.pinned (OpenSpec.upto wireTurnsSpec)

/-- 'mklaw6.StoreTells', WHERE WHAT IT READS IS OF BULK AT MOST 1048576: true; the input reads as it did. -/
def storeTellsUptoRow : OpenClaim := { program := "ytkmokkhcoombnaa", sum := "459183b461ec9ccaec88e26909f643b01abc096ddeee89e836206a54e10bb147", func := "mendkernel/mklaw6.StoreTells", spec := "storeTells", apart := false, narrowed := true }
def StoreTellsUptoSaid : Prop := storeTellsUptoRow.holds Try.pinned (OpenSpec.upto storeTellsSpec)

/-- 'mklaw6.StoreLast', WHERE WHAT IT READS IS OF BULK AT MOST 1048576: true; the input reads as it did. -/
def storeLastUptoRow : OpenClaim := { program := "ytkmokkhcoombnaa", sum := "459183b461ec9ccaec88e26909f643b01abc096ddeee89e836206a54e10bb147", func := "mendkernel/mklaw6.StoreLast", spec := "storeLast", apart := false, narrowed := true }
def StoreLastUptoSaid : Prop := storeLastUptoRow.holds Try.pinned (OpenSpec.upto storeLastSpec)

/-- 'mklaw6.StoreBack', WHERE WHAT IT READS IS OF BULK AT MOST 1048576: true; the input reads as it did. -/
def storeBackUptoRow : OpenClaim := { program := "ytkmokkhcoombnaa", sum := "459183b461ec9ccaec88e26909f643b01abc096ddeee89e836206a54e10bb147", func := "mendkernel/mklaw6.StoreBack", spec := "storeBack", apart := false, narrowed := true }
def StoreBackUptoSaid : Prop := storeBackUptoRow.holds Try.pinned (OpenSpec.upto storeBackSpec)

/-- 'mklaw9.ClientTells', WHERE WHAT IT READS IS OF BULK AT MOST 1048576: true; the input reads as it did. -/
def clientTellsUptoRow : OpenClaim := { program := "ytkmokkhcoombnaa", sum := "459183b461ec9ccaec88e26909f643b01abc096ddeee89e836206a54e10bb147", func := "mendkernel/mklaw9.ClientTells", spec := "clientTells", unfollowed := true, recurses := true, apart := false, narrowed := true }
def ClientTellsUptoSaid : Prop := clientTellsUptoRow.holds Try.pinned (OpenSpec.upto clientTellsSpec)

/-- 'mklaw9.ClientAgain', WHERE WHAT IT READS IS OF BULK AT MOST 1048576: true; the input reads as it did. -/
def clientAgainUptoRow : OpenClaim := { program := "ytkmokkhcoombnaa", sum := "459183b461ec9ccaec88e26909f643b01abc096ddeee89e836206a54e10bb147", func := "mendkernel/mklaw9.ClientAgain", spec := "clientAgain", unfollowed := true, recurses := true, apart := false, narrowed := true }
def ClientAgainUptoSaid : Prop := clientAgainUptoRow.holds Try.pinned (OpenSpec.upto clientAgainSpec)

/-- 'mklaw9.ClientDeaf', WHERE WHAT IT READS IS OF BULK AT MOST 1048576: true; the input reads as it did. -/
def clientDeafUptoRow : OpenClaim := { program := "ytkmokkhcoombnaa", sum := "459183b461ec9ccaec88e26909f643b01abc096ddeee89e836206a54e10bb147", func := "mendkernel/mklaw9.ClientDeaf", spec := "clientDeaf", unfollowed := true, recurses := true, apart := false, narrowed := true }
def ClientDeafUptoSaid : Prop := clientDeafUptoRow.holds Try.pinned (OpenSpec.upto clientDeafSpec)

/-- 'mklaw1.CellTells', WHERE WHAT IT READS IS OF BULK AT MOST 1048576: true; the input reads as it did. -/
def cellTellsUptoRow : OpenClaim := { program := "ytkmokkhcoombnaa", sum := "459183b461ec9ccaec88e26909f643b01abc096ddeee89e836206a54e10bb147", func := "mendkernel/mklaw1.CellTells", spec := "cellTells", apart := false, narrowed := true }
def CellTellsUptoSaid : Prop := cellTellsUptoRow.holds Try.pinned (OpenSpec.upto cellTellsSpec)

/-- 'mklaw1.CellApart', WHERE WHAT IT READS IS OF BULK AT MOST 1048576: true; the input reads as it did. -/
def cellApartUptoRow : OpenClaim := { program := "ytkmokkhcoombnaa", sum := "459183b461ec9ccaec88e26909f643b01abc096ddeee89e836206a54e10bb147", func := "mendkernel/mklaw1.CellApart", spec := "cellApart", apart := false, narrowed := true }
def CellApartUptoSaid : Prop := cellApartUptoRow.holds Try.pinned (OpenSpec.upto cellApartSpec)

/-- 'mklaw1.CellBack', WHERE WHAT IT READS IS OF BULK AT MOST 1048576: true; the input reads as it did. -/
def cellBackUptoRow : OpenClaim := { program := "ytkmokkhcoombnaa", sum := "459183b461ec9ccaec88e26909f643b01abc096ddeee89e836206a54e10bb147", func := "mendkernel/mklaw1.CellBack", spec := "cellBack", apart := false, narrowed := true }
def CellBackUptoSaid : Prop := cellBackUptoRow.holds Try.pinned (OpenSpec.upto cellBackSpec)

/-- 'mklaw8.GuardTells', WHERE WHAT IT READS IS OF BULK AT MOST 1048576: true; the input reads as it did. -/
def guardTellsUptoRow : OpenClaim := { program := "ytkmokkhcoombnaa", sum := "459183b461ec9ccaec88e26909f643b01abc096ddeee89e836206a54e10bb147", func := "mendkernel/mklaw8.GuardTells", spec := "guardTells", unfollowed := true, recurses := true, apart := false, narrowed := true }
def GuardTellsUptoSaid : Prop := guardTellsUptoRow.holds Try.pinned (OpenSpec.upto guardTellsSpec)

/-- 'mklaw8.GuardKeeps', WHERE WHAT IT READS IS OF BULK AT MOST 1048576: true; the input reads as it did. -/
def guardKeepsUptoRow : OpenClaim := { program := "ytkmokkhcoombnaa", sum := "459183b461ec9ccaec88e26909f643b01abc096ddeee89e836206a54e10bb147", func := "mendkernel/mklaw8.GuardKeeps", spec := "guardKeeps", unfollowed := true, recurses := true, apart := false, narrowed := true }
def GuardKeepsUptoSaid : Prop := guardKeepsUptoRow.holds Try.pinned (OpenSpec.upto guardKeepsSpec)

/-- 'mklaw8.GuardUp', WHERE WHAT IT READS IS OF BULK AT MOST 1048576: true; the input reads as it did. -/
def guardUpUptoRow : OpenClaim := { program := "ytkmokkhcoombnaa", sum := "459183b461ec9ccaec88e26909f643b01abc096ddeee89e836206a54e10bb147", func := "mendkernel/mklaw8.GuardUp", spec := "guardUp", unfollowed := true, recurses := true, apart := false, narrowed := true }
def GuardUpUptoSaid : Prop := guardUpUptoRow.holds Try.pinned (OpenSpec.upto guardUpSpec)

/-- 'mklaw2.ModelTells', WHERE WHAT IT READS IS OF BULK AT MOST 1048576: true; the input reads as it did. -/
def modelTellsUptoRow : OpenClaim := { program := "ytkmokkhcoombnaa", sum := "459183b461ec9ccaec88e26909f643b01abc096ddeee89e836206a54e10bb147", func := "mendkernel/mklaw2.ModelTells", spec := "modelTells", unfollowed := true, recurses := true, apart := false, narrowed := true }
def ModelTellsUptoSaid : Prop := modelTellsUptoRow.holds Try.pinned (OpenSpec.upto modelTellsSpec)

/-- 'mklaw2.ModelRight', WHERE WHAT IT READS IS OF BULK AT MOST 1048576: true; the input reads as it did. -/
def modelRightUptoRow : OpenClaim := { program := "ytkmokkhcoombnaa", sum := "459183b461ec9ccaec88e26909f643b01abc096ddeee89e836206a54e10bb147", func := "mendkernel/mklaw2.ModelRight", spec := "modelRight", unfollowed := true, recurses := true, apart := false, narrowed := true }
def ModelRightUptoSaid : Prop := modelRightUptoRow.holds Try.pinned (OpenSpec.upto modelRightSpec)

/-- 'mklaw2.ModelSwap', WHERE WHAT IT READS IS OF BULK AT MOST 1048576: true; the input reads as it did. -/
def modelSwapUptoRow : OpenClaim := { program := "ytkmokkhcoombnaa", sum := "459183b461ec9ccaec88e26909f643b01abc096ddeee89e836206a54e10bb147", func := "mendkernel/mklaw2.ModelSwap", spec := "modelSwap", unfollowed := true, recurses := true, apart := false, narrowed := true }
def ModelSwapUptoSaid : Prop := modelSwapUptoRow.holds Try.pinned (OpenSpec.upto modelSwapSpec)

end Rows
end Go.Proofs.Ytkmokkhcoombnaa
