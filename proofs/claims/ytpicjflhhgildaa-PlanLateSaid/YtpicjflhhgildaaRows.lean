/-
  No cell of these rows narrows 'for every input' (looked for: loops, veiled, ifaces, maps, wideKeys, modest, calm, conditions, laid).
  DERIVED. THE GIVEN ROWS OF THIS SEAT. 35 by the template 'for every input the law returns true; each argument reads behind the call as it read before'; 0 by the template 'total and deterministic' (their statements: YtpicjflhhgildaaTotals.lean).
  GIVEN WITH THE SEED: the statements are not yours to turn. If you find one false, say at which input.
  Laid BY PROGRAM, IN A SANDBOX (cutbox-rows.mjs): the forced cells as the released guide's own fill.sh prints them over the translation 5e709fafc6b05e24… (all of the seat's roots in one cut). By AI agents, Wed Nov 11 2026. No macro, syntax, notation, axiom, sorry.
-/
import Derived.Test.YtpicjflhhgildaaChecked
import GoSem.Claim
import GoSem.ClaimJoined
import GoSem.ClaimMapViews
import Derived.JoinedTies
import Derived.KernelRfl
namespace Go.Proofs.Ytpicjflhhgildaa
/- THE CELL 'sum', in the pinned program and in every row, IS THE sha256 OF THE DUMP (.gsa) THAT YtpicjflhhgildaaProg.lean LOADS. Nothing in Lean hashes anything: it is a label: what it is worth is what the hold of that sum in a sandbox is worth. -/
noncomputable def Try.pinned : Pinned := { name := "ytpicjflhhgildaa", sum := "5e709fafc6b05e248f4ada59d55b2bd175ad9e1d93c672016b5fed5f7c82d071", checked := Try.checked }
namespace Rows
def none {H : Type} : Left H := { results := [], args := [] }

/-- 'mklaw4.PlanTells': WHATEVER THE INPUT: true; the input reads as it did. -/
def planTellsSpec : ChangeSpec := { name := "planTells", fn := fun _ => fun
  | [d1, d2] => { results := [.lit (.bool true)], args := [d1, d2] }
  | _ => none }
def planTellsRow : OpenClaim := { program := "ytpicjflhhgildaa", sum := "5e709fafc6b05e248f4ada59d55b2bd175ad9e1d93c672016b5fed5f7c82d071", func := "mendkernel/mklaw4.PlanTells", spec := "planTells", unfollowed := true, recurses := true, apart := false }
def PlanTellsSaid : Prop := planTellsRow.holds Try.pinned (OpenSpec.ofChange planTellsSpec)

/-- ITS FALSE NEIGHBOUR: 'it returns false'. Refute it at one input. -/
def planTellsWrong : ChangeSpec := { name := "planTells", fn := fun _ => fun
  | [d1, d2] => { results := [.lit (.bool false)], args := [d1, d2] }
  | _ => none }
def PlanTellsWrongFalsely : Prop := planTellsRow.holds Try.pinned (OpenSpec.ofChange planTellsWrong)

/-- 'mklaw4.PlanModel': WHATEVER THE INPUT: true; the input reads as it did. -/
def planModelSpec : ChangeSpec := { name := "planModel", fn := fun _ => fun
  | [d1, d2] => { results := [.lit (.bool true)], args := [d1, d2] }
  | _ => none }
def planModelRow : OpenClaim := { program := "ytpicjflhhgildaa", sum := "5e709fafc6b05e248f4ada59d55b2bd175ad9e1d93c672016b5fed5f7c82d071", func := "mendkernel/mklaw4.PlanModel", spec := "planModel", unfollowed := true, recurses := true, apart := false }
def PlanModelSaid : Prop := planModelRow.holds Try.pinned (OpenSpec.ofChange planModelSpec)

/-- ITS FALSE NEIGHBOUR: 'it returns false'. Refute it at one input. -/
def planModelWrong : ChangeSpec := { name := "planModel", fn := fun _ => fun
  | [d1, d2] => { results := [.lit (.bool false)], args := [d1, d2] }
  | _ => none }
def PlanModelWrongFalsely : Prop := planModelRow.holds Try.pinned (OpenSpec.ofChange planModelWrong)

/-- 'mklaw4.PlanLate': WHATEVER THE INPUT: true; the input reads as it did. -/
def planLateSpec : ChangeSpec := { name := "planLate", fn := fun _ => fun
  | [d1, d2, d3] => { results := [.lit (.bool true)], args := [d1, d2, d3] }
  | _ => none }
def planLateRow : OpenClaim := { program := "ytpicjflhhgildaa", sum := "5e709fafc6b05e248f4ada59d55b2bd175ad9e1d93c672016b5fed5f7c82d071", func := "mendkernel/mklaw4.PlanLate", spec := "planLate", apart := false }
def PlanLateSaid : Prop := planLateRow.holds Try.pinned (OpenSpec.ofChange planLateSpec)

/-- ITS FALSE NEIGHBOUR: 'it returns false'. Refute it at one input. -/
def planLateWrong : ChangeSpec := { name := "planLate", fn := fun _ => fun
  | [d1, d2, d3] => { results := [.lit (.bool false)], args := [d1, d2, d3] }
  | _ => none }
def PlanLateWrongFalsely : Prop := planLateRow.holds Try.pinned (OpenSpec.ofChange planLateWrong)

/-- 'mklaw5.WireTells': WHATEVER THE INPUT: true; the input reads as it did. -/
def wireTellsSpec : ChangeSpec := { name := "wireTells", fn := fun _ => fun
  | [d1, d2, d3] => { results := [.lit (.bool true)], args := [d1, d2, d3] }
  | _ => none }
def wireTellsRow : OpenClaim := { program := "ytpicjflhhgildaa", sum := "5e709fafc6b05e248f4ada59d55b2bd175ad9e1d93c672016b5fed5f7c82d071", func := "mendkernel/mklaw5.WireTells", spec := "wireTells", unfollowed := true, recurses := true, apart := false }
def WireTellsSaid : Prop := wireTellsRow.holds Try.pinned (OpenSpec.ofChange wireTellsSpec)

/-- ITS FALSE NEIGHBOUR: 'it returns false'. Refute it at one input. -/
def wireTellsWrong : ChangeSpec := { name := "wireTells", fn := fun _ => fun
  | [d1, d2, d3] => { results := [.lit (.bool false)], args := [d1, d2, d3] }
  | _ => none }
def WireTellsWrongFalsely : Prop := wireTellsRow.holds Try.pinned (OpenSpec.ofChange wireTellsWrong)

/-- 'mklaw5.WireUnlike': WHATEVER THE INPUT: true; the input reads as it did. -/
def wireUnlikeSpec : ChangeSpec := { name := "wireUnlike", fn := fun _ => fun
  | [d1, d2, d3, d4] => { results := [.lit (.bool true)], args := [d1, d2, d3, d4] }
  | _ => none }
def wireUnlikeRow : OpenClaim := { program := "ytpicjflhhgildaa", sum := "5e709fafc6b05e248f4ada59d55b2bd175ad9e1d93c672016b5fed5f7c82d071", func := "mendkernel/mklaw5.WireUnlike", spec := "wireUnlike", unfollowed := true, recurses := true, apart := false }
def WireUnlikeSaid : Prop := wireUnlikeRow.holds Try.pinned (OpenSpec.ofChange wireUnlikeSpec)

/-- ITS FALSE NEIGHBOUR: 'it returns false'. Refute it at one input. -/
def wireUnlikeWrong : ChangeSpec := { name := "wireUnlike", fn := fun _ => fun
  | [d1, d2, d3, d4] => { results := [.lit (.bool false)], args := [d1, d2, d3, d4] }
  | _ => none }
def WireUnlikeWrongFalsely : Prop := wireUnlikeRow.holds Try.pinned (OpenSpec.ofChange wireUnlikeWrong)

/-- 'mklaw5.WireTurns': WHATEVER THE INPUT: true; the input reads as it did. -/
def wireTurnsSpec : ChangeSpec := { name := "wireTurns", fn := fun _ => fun
  | [d1, d2, d3] => { results := [.lit (.bool true)], args := [d1, d2, d3] }
  | _ => none }
def wireTurnsRow : OpenClaim := { program := "ytpicjflhhgildaa", sum := "5e709fafc6b05e248f4ada59d55b2bd175ad9e1d93c672016b5fed5f7c82d071", func := "mendkernel/mklaw5.WireTurns", spec := "wireTurns", unfollowed := true, recurses := true, apart := false }
def WireTurnsSaid : Prop := wireTurnsRow.holds Try.pinned (OpenSpec.ofChange wireTurnsSpec)

/-- ITS FALSE NEIGHBOUR: 'it returns false'. Refute it at one input. -/
def wireTurnsWrong : ChangeSpec := { name := "wireTurns", fn := fun _ => fun
  | [d1, d2, d3] => { results := [.lit (.bool false)], args := [d1, d2, d3] }
  | _ => none }
def WireTurnsWrongFalsely : Prop := wireTurnsRow.holds Try.pinned (OpenSpec.ofChange wireTurnsWrong)

/-- 'mklaw6.StoreTells': WHATEVER THE INPUT: true; the input reads as it did. -/
def storeTellsSpec : ChangeSpec := { name := "storeTells", fn := fun _ => fun
  | [d1, d2, d3, d4, d5] => { results := [.lit (.bool true)], args := [d1, d2, d3, d4, d5] }
  | _ => none }
def storeTellsRow : OpenClaim := { program := "ytpicjflhhgildaa", sum := "5e709fafc6b05e248f4ada59d55b2bd175ad9e1d93c672016b5fed5f7c82d071", func := "mendkernel/mklaw6.StoreTells", spec := "storeTells", apart := false }
def StoreTellsSaid : Prop := storeTellsRow.holds Try.pinned (OpenSpec.ofChange storeTellsSpec)

/-- ITS FALSE NEIGHBOUR: 'it returns false'. Refute it at one input. -/
def storeTellsWrong : ChangeSpec := { name := "storeTells", fn := fun _ => fun
  | [d1, d2, d3, d4, d5] => { results := [.lit (.bool false)], args := [d1, d2, d3, d4, d5] }
  | _ => none }
def StoreTellsWrongFalsely : Prop := storeTellsRow.holds Try.pinned (OpenSpec.ofChange storeTellsWrong)

/-- 'mklaw6.StoreLast': WHATEVER THE INPUT: true; the input reads as it did. -/
def storeLastSpec : ChangeSpec := { name := "storeLast", fn := fun _ => fun
  | [d1, d2, d3, d4] => { results := [.lit (.bool true)], args := [d1, d2, d3, d4] }
  | _ => none }
def storeLastRow : OpenClaim := { program := "ytpicjflhhgildaa", sum := "5e709fafc6b05e248f4ada59d55b2bd175ad9e1d93c672016b5fed5f7c82d071", func := "mendkernel/mklaw6.StoreLast", spec := "storeLast", apart := false }
def StoreLastSaid : Prop := storeLastRow.holds Try.pinned (OpenSpec.ofChange storeLastSpec)

/-- ITS FALSE NEIGHBOUR: 'it returns false'. Refute it at one input. -/
def storeLastWrong : ChangeSpec := { name := "storeLast", fn := fun _ => fun
  | [d1, d2, d3, d4] => { results := [.lit (.bool false)], args := [d1, d2, d3, d4] }
  | _ => none }
def StoreLastWrongFalsely : Prop := storeLastRow.holds Try.pinned (OpenSpec.ofChange storeLastWrong)

/-- 'mklaw6.StoreBack': WHATEVER THE INPUT: true; the input reads as it did. -/
def storeBackSpec : ChangeSpec := { name := "storeBack", fn := fun _ => fun
  | [d1, d2, d3, d4] => { results := [.lit (.bool true)], args := [d1, d2, d3, d4] }
  | _ => none }
def storeBackRow : OpenClaim := { program := "ytpicjflhhgildaa", sum := "5e709fafc6b05e248f4ada59d55b2bd175ad9e1d93c672016b5fed5f7c82d071", func := "mendkernel/mklaw6.StoreBack", spec := "storeBack", apart := false }
def StoreBackSaid : Prop := storeBackRow.holds Try.pinned (OpenSpec.ofChange storeBackSpec)

/-- ITS FALSE NEIGHBOUR: 'it returns false'. Refute it at one input. -/
def storeBackWrong : ChangeSpec := { name := "storeBack", fn := fun _ => fun
  | [d1, d2, d3, d4] => { results := [.lit (.bool false)], args := [d1, d2, d3, d4] }
  | _ => none }
def StoreBackWrongFalsely : Prop := storeBackRow.holds Try.pinned (OpenSpec.ofChange storeBackWrong)

/-- 'mklaw9.ClientTells': WHATEVER THE INPUT: true; the input reads as it did. -/
def clientTellsSpec : ChangeSpec := { name := "clientTells", fn := fun _ => fun
  | [d1, d2, d3, d4, d5, d6] => { results := [.lit (.bool true)], args := [d1, d2, d3, d4, d5, d6] }
  | _ => none }
def clientTellsRow : OpenClaim := { program := "ytpicjflhhgildaa", sum := "5e709fafc6b05e248f4ada59d55b2bd175ad9e1d93c672016b5fed5f7c82d071", func := "mendkernel/mklaw9.ClientTells", spec := "clientTells", unfollowed := true, recurses := true, apart := false }
def ClientTellsSaid : Prop := clientTellsRow.holds Try.pinned (OpenSpec.ofChange clientTellsSpec)

/-- ITS FALSE NEIGHBOUR: 'it returns false'. Refute it at one input. -/
def clientTellsWrong : ChangeSpec := { name := "clientTells", fn := fun _ => fun
  | [d1, d2, d3, d4, d5, d6] => { results := [.lit (.bool false)], args := [d1, d2, d3, d4, d5, d6] }
  | _ => none }
def ClientTellsWrongFalsely : Prop := clientTellsRow.holds Try.pinned (OpenSpec.ofChange clientTellsWrong)

/-- 'mktop.Names': WHATEVER THE INPUT: true; the input reads as it did. -/
def namesSpec : ChangeSpec := { name := "names", fn := fun _ => fun
  | [] => { results := [.lit (.bool true)], args := [] }
  | _ => none }
def namesRow : OpenClaim := { program := "ytpicjflhhgildaa", sum := "5e709fafc6b05e248f4ada59d55b2bd175ad9e1d93c672016b5fed5f7c82d071", func := "mendkernel/mktop.Names", spec := "names", apart := false }
def NamesSaid : Prop := namesRow.holds Try.pinned (OpenSpec.ofChange namesSpec)

/-- ITS FALSE NEIGHBOUR: 'it returns false'. Refute it at one input. -/
def namesWrong : ChangeSpec := { name := "names", fn := fun _ => fun
  | [] => { results := [.lit (.bool false)], args := [] }
  | _ => none }
def NamesWrongFalsely : Prop := namesRow.holds Try.pinned (OpenSpec.ofChange namesWrong)

/-- 'mklaw9.ClientAgain': WHATEVER THE INPUT: true; the input reads as it did. -/
def clientAgainSpec : ChangeSpec := { name := "clientAgain", fn := fun _ => fun
  | [d1, d2, d3, d4, d5] => { results := [.lit (.bool true)], args := [d1, d2, d3, d4, d5] }
  | _ => none }
def clientAgainRow : OpenClaim := { program := "ytpicjflhhgildaa", sum := "5e709fafc6b05e248f4ada59d55b2bd175ad9e1d93c672016b5fed5f7c82d071", func := "mendkernel/mklaw9.ClientAgain", spec := "clientAgain", unfollowed := true, recurses := true, apart := false }
def ClientAgainSaid : Prop := clientAgainRow.holds Try.pinned (OpenSpec.ofChange clientAgainSpec)

/-- ITS FALSE NEIGHBOUR: 'it returns false'. Refute it at one input. -/
def clientAgainWrong : ChangeSpec := { name := "clientAgain", fn := fun _ => fun
  | [d1, d2, d3, d4, d5] => { results := [.lit (.bool false)], args := [d1, d2, d3, d4, d5] }
  | _ => none }
def ClientAgainWrongFalsely : Prop := clientAgainRow.holds Try.pinned (OpenSpec.ofChange clientAgainWrong)

/-- 'mklaw9.ClientDeaf': WHATEVER THE INPUT: true; the input reads as it did. -/
def clientDeafSpec : ChangeSpec := { name := "clientDeaf", fn := fun _ => fun
  | [d1, d2, d3, d4] => { results := [.lit (.bool true)], args := [d1, d2, d3, d4] }
  | _ => none }
def clientDeafRow : OpenClaim := { program := "ytpicjflhhgildaa", sum := "5e709fafc6b05e248f4ada59d55b2bd175ad9e1d93c672016b5fed5f7c82d071", func := "mendkernel/mklaw9.ClientDeaf", spec := "clientDeaf", unfollowed := true, recurses := true, apart := false }
def ClientDeafSaid : Prop := clientDeafRow.holds Try.pinned (OpenSpec.ofChange clientDeafSpec)

/-- ITS FALSE NEIGHBOUR: 'it returns false'. Refute it at one input. -/
def clientDeafWrong : ChangeSpec := { name := "clientDeaf", fn := fun _ => fun
  | [d1, d2, d3, d4] => { results := [.lit (.bool false)], args := [d1, d2, d3, d4] }
  | _ => none }
def ClientDeafWrongFalsely : Prop := clientDeafRow.holds Try.pinned (OpenSpec.ofChange clientDeafWrong)

/-- 'mklaw1.CellTells': WHATEVER THE INPUT: true; the input reads as it did. -/
def cellTellsSpec : ChangeSpec := { name := "cellTells", fn := fun _ => fun
  | [d1, d2, d3] => { results := [.lit (.bool true)], args := [d1, d2, d3] }
  | _ => none }
def cellTellsRow : OpenClaim := { program := "ytpicjflhhgildaa", sum := "5e709fafc6b05e248f4ada59d55b2bd175ad9e1d93c672016b5fed5f7c82d071", func := "mendkernel/mklaw1.CellTells", spec := "cellTells", apart := false }
def CellTellsSaid : Prop := cellTellsRow.holds Try.pinned (OpenSpec.ofChange cellTellsSpec)

/-- ITS FALSE NEIGHBOUR: 'it returns false'. Refute it at one input. -/
def cellTellsWrong : ChangeSpec := { name := "cellTells", fn := fun _ => fun
  | [d1, d2, d3] => { results := [.lit (.bool false)], args := [d1, d2, d3] }
  | _ => none }
def CellTellsWrongFalsely : Prop := cellTellsRow.holds Try.pinned (OpenSpec.ofChange cellTellsWrong)

/-- 'mklaw1.CellApart': WHATEVER THE INPUT: true; the input reads as it did. -/
def cellApartSpec : ChangeSpec := { name := "cellApart", fn := fun _ => fun
  | [d1, d2, d3] => { results := [.lit (.bool true)], args := [d1, d2, d3] }
  | _ => none }
def cellApartRow : OpenClaim := { program := "ytpicjflhhgildaa", sum := "5e709fafc6b05e248f4ada59d55b2bd175ad9e1d93c672016b5fed5f7c82d071", func := "mendkernel/mklaw1.CellApart", spec := "cellApart", apart := false }
def CellApartSaid : Prop := cellApartRow.holds Try.pinned (OpenSpec.ofChange cellApartSpec)

/-- ITS FALSE NEIGHBOUR: 'it returns false'. Refute it at one input. -/
def cellApartWrong : ChangeSpec := { name := "cellApart", fn := fun _ => fun
  | [d1, d2, d3] => { results := [.lit (.bool false)], args := [d1, d2, d3] }
  | _ => none }
def CellApartWrongFalsely : Prop := cellApartRow.holds Try.pinned (OpenSpec.ofChange cellApartWrong)

/-- 'mklaw1.CellBack': WHATEVER THE INPUT: true; the input reads as it did. -/
def cellBackSpec : ChangeSpec := { name := "cellBack", fn := fun _ => fun
  | [d1, d2, d3] => { results := [.lit (.bool true)], args := [d1, d2, d3] }
  | _ => none }
def cellBackRow : OpenClaim := { program := "ytpicjflhhgildaa", sum := "5e709fafc6b05e248f4ada59d55b2bd175ad9e1d93c672016b5fed5f7c82d071", func := "mendkernel/mklaw1.CellBack", spec := "cellBack", apart := false }
def CellBackSaid : Prop := cellBackRow.holds Try.pinned (OpenSpec.ofChange cellBackSpec)

/-- ITS FALSE NEIGHBOUR: 'it returns false'. Refute it at one input. -/
def cellBackWrong : ChangeSpec := { name := "cellBack", fn := fun _ => fun
  | [d1, d2, d3] => { results := [.lit (.bool false)], args := [d1, d2, d3] }
  | _ => none }
def CellBackWrongFalsely : Prop := cellBackRow.holds Try.pinned (OpenSpec.ofChange cellBackWrong)

/-- 'mklaw8.GuardTells': WHATEVER THE INPUT: true; the input reads as it did. -/
def guardTellsSpec : ChangeSpec := { name := "guardTells", fn := fun _ => fun
  | [d1, d2, d3] => { results := [.lit (.bool true)], args := [d1, d2, d3] }
  | _ => none }
def guardTellsRow : OpenClaim := { program := "ytpicjflhhgildaa", sum := "5e709fafc6b05e248f4ada59d55b2bd175ad9e1d93c672016b5fed5f7c82d071", func := "mendkernel/mklaw8.GuardTells", spec := "guardTells", unfollowed := true, recurses := true, apart := false }
def GuardTellsSaid : Prop := guardTellsRow.holds Try.pinned (OpenSpec.ofChange guardTellsSpec)

/-- ITS FALSE NEIGHBOUR: 'it returns false'. Refute it at one input. -/
def guardTellsWrong : ChangeSpec := { name := "guardTells", fn := fun _ => fun
  | [d1, d2, d3] => { results := [.lit (.bool false)], args := [d1, d2, d3] }
  | _ => none }
def GuardTellsWrongFalsely : Prop := guardTellsRow.holds Try.pinned (OpenSpec.ofChange guardTellsWrong)

/-- 'mklaw8.GuardKeeps': WHATEVER THE INPUT: true; the input reads as it did. -/
def guardKeepsSpec : ChangeSpec := { name := "guardKeeps", fn := fun _ => fun
  | [d1, d2, d3] => { results := [.lit (.bool true)], args := [d1, d2, d3] }
  | _ => none }
def guardKeepsRow : OpenClaim := { program := "ytpicjflhhgildaa", sum := "5e709fafc6b05e248f4ada59d55b2bd175ad9e1d93c672016b5fed5f7c82d071", func := "mendkernel/mklaw8.GuardKeeps", spec := "guardKeeps", unfollowed := true, recurses := true, apart := false }
def GuardKeepsSaid : Prop := guardKeepsRow.holds Try.pinned (OpenSpec.ofChange guardKeepsSpec)

/-- ITS FALSE NEIGHBOUR: 'it returns false'. Refute it at one input. -/
def guardKeepsWrong : ChangeSpec := { name := "guardKeeps", fn := fun _ => fun
  | [d1, d2, d3] => { results := [.lit (.bool false)], args := [d1, d2, d3] }
  | _ => none }
def GuardKeepsWrongFalsely : Prop := guardKeepsRow.holds Try.pinned (OpenSpec.ofChange guardKeepsWrong)

/-- 'mklaw8.GuardUp': WHATEVER THE INPUT: true; the input reads as it did. -/
def guardUpSpec : ChangeSpec := { name := "guardUp", fn := fun _ => fun
  | [d1, d2] => { results := [.lit (.bool true)], args := [d1, d2] }
  | _ => none }
def guardUpRow : OpenClaim := { program := "ytpicjflhhgildaa", sum := "5e709fafc6b05e248f4ada59d55b2bd175ad9e1d93c672016b5fed5f7c82d071", func := "mendkernel/mklaw8.GuardUp", spec := "guardUp", unfollowed := true, recurses := true, apart := false }
def GuardUpSaid : Prop := guardUpRow.holds Try.pinned (OpenSpec.ofChange guardUpSpec)

/-- ITS FALSE NEIGHBOUR: 'it returns false'. Refute it at one input. -/
def guardUpWrong : ChangeSpec := { name := "guardUp", fn := fun _ => fun
  | [d1, d2] => { results := [.lit (.bool false)], args := [d1, d2] }
  | _ => none }
def GuardUpWrongFalsely : Prop := guardUpRow.holds Try.pinned (OpenSpec.ofChange guardUpWrong)

/-- 'mklaw2.ModelTells': WHATEVER THE INPUT: true; the input reads as it did. -/
def modelTellsSpec : ChangeSpec := { name := "modelTells", fn := fun _ => fun
  | [d1, d2, d3, d4] => { results := [.lit (.bool true)], args := [d1, d2, d3, d4] }
  | _ => none }
def modelTellsRow : OpenClaim := { program := "ytpicjflhhgildaa", sum := "5e709fafc6b05e248f4ada59d55b2bd175ad9e1d93c672016b5fed5f7c82d071", func := "mendkernel/mklaw2.ModelTells", spec := "modelTells", unfollowed := true, recurses := true, apart := false }
def ModelTellsSaid : Prop := modelTellsRow.holds Try.pinned (OpenSpec.ofChange modelTellsSpec)

/-- ITS FALSE NEIGHBOUR: 'it returns false'. Refute it at one input. -/
def modelTellsWrong : ChangeSpec := { name := "modelTells", fn := fun _ => fun
  | [d1, d2, d3, d4] => { results := [.lit (.bool false)], args := [d1, d2, d3, d4] }
  | _ => none }
def ModelTellsWrongFalsely : Prop := modelTellsRow.holds Try.pinned (OpenSpec.ofChange modelTellsWrong)

/-- 'mklaw2.ModelRight': WHATEVER THE INPUT: true; the input reads as it did. -/
def modelRightSpec : ChangeSpec := { name := "modelRight", fn := fun _ => fun
  | [d1, d2] => { results := [.lit (.bool true)], args := [d1, d2] }
  | _ => none }
def modelRightRow : OpenClaim := { program := "ytpicjflhhgildaa", sum := "5e709fafc6b05e248f4ada59d55b2bd175ad9e1d93c672016b5fed5f7c82d071", func := "mendkernel/mklaw2.ModelRight", spec := "modelRight", unfollowed := true, recurses := true, apart := false }
def ModelRightSaid : Prop := modelRightRow.holds Try.pinned (OpenSpec.ofChange modelRightSpec)

/-- ITS FALSE NEIGHBOUR: 'it returns false'. Refute it at one input. -/
def modelRightWrong : ChangeSpec := { name := "modelRight", fn := fun _ => fun
  | [d1, d2] => { results := [.lit (.bool false)], args := [d1, d2] }
  | _ => none }
def ModelRightWrongFalsely : Prop := modelRightRow.holds Try.pinned (OpenSpec.ofChange modelRightWrong)

/-- 'mklaw2.ModelSwap': WHATEVER THE INPUT: true; the input reads as it did. -/
def modelSwapSpec : ChangeSpec := { name := "modelSwap", fn := fun _ => fun
  | [d1, d2, d3] => { results := [.lit (.bool true)], args := [d1, d2, d3] }
  | _ => none }
def modelSwapRow : OpenClaim := { program := "ytpicjflhhgildaa", sum := "5e709fafc6b05e248f4ada59d55b2bd175ad9e1d93c672016b5fed5f7c82d071", func := "mendkernel/mklaw2.ModelSwap", spec := "modelSwap", unfollowed := true, recurses := true, apart := false }
def ModelSwapSaid : Prop := modelSwapRow.holds Try.pinned (OpenSpec.ofChange modelSwapSpec)

/-- ITS FALSE NEIGHBOUR: 'it returns false'. Refute it at one input. -/
def modelSwapWrong : ChangeSpec := { name := "modelSwap", fn := fun _ => fun
  | [d1, d2, d3] => { results := [.lit (.bool false)], args := [d1, d2, d3] }
  | _ => none }
def ModelSwapWrongFalsely : Prop := modelSwapRow.holds Try.pinned (OpenSpec.ofChange modelSwapWrong)

/-- 'mklaw11.LookTells': WHATEVER THE INPUT: true; the input reads as it did. -/
def lookTellsSpec : ChangeSpec := { name := "lookTells", fn := fun _ => fun
  | [d1, d2, d3] => { results := [.lit (.bool true)], args := [d1, d2, d3] }
  | _ => none }
def lookTellsRow : OpenClaim := { program := "ytpicjflhhgildaa", sum := "5e709fafc6b05e248f4ada59d55b2bd175ad9e1d93c672016b5fed5f7c82d071", func := "mendkernel/mklaw11.LookTells", spec := "lookTells", unfollowed := true, recurses := true, apart := false }
def LookTellsSaid : Prop := lookTellsRow.holds Try.pinned (OpenSpec.ofChange lookTellsSpec)

/-- ITS FALSE NEIGHBOUR: 'it returns false'. Refute it at one input. -/
def lookTellsWrong : ChangeSpec := { name := "lookTells", fn := fun _ => fun
  | [d1, d2, d3] => { results := [.lit (.bool false)], args := [d1, d2, d3] }
  | _ => none }
def LookTellsWrongFalsely : Prop := lookTellsRow.holds Try.pinned (OpenSpec.ofChange lookTellsWrong)

/-- 'mklaw11.LookWhole': WHATEVER THE INPUT: true; the input reads as it did. -/
def lookWholeSpec : ChangeSpec := { name := "lookWhole", fn := fun _ => fun
  | [d1, d2] => { results := [.lit (.bool true)], args := [d1, d2] }
  | _ => none }
def lookWholeRow : OpenClaim := { program := "ytpicjflhhgildaa", sum := "5e709fafc6b05e248f4ada59d55b2bd175ad9e1d93c672016b5fed5f7c82d071", func := "mendkernel/mklaw11.LookWhole", spec := "lookWhole", unfollowed := true, recurses := true, apart := false }
def LookWholeSaid : Prop := lookWholeRow.holds Try.pinned (OpenSpec.ofChange lookWholeSpec)

/-- ITS FALSE NEIGHBOUR: 'it returns false'. Refute it at one input. -/
def lookWholeWrong : ChangeSpec := { name := "lookWhole", fn := fun _ => fun
  | [d1, d2] => { results := [.lit (.bool false)], args := [d1, d2] }
  | _ => none }
def LookWholeWrongFalsely : Prop := lookWholeRow.holds Try.pinned (OpenSpec.ofChange lookWholeWrong)

/-- 'mklaw11.LookSharp': WHATEVER THE INPUT: true; the input reads as it did. -/
def lookSharpSpec : ChangeSpec := { name := "lookSharp", fn := fun _ => fun
  | [d1, d2, d3, d4, d5] => { results := [.lit (.bool true)], args := [d1, d2, d3, d4, d5] }
  | _ => none }
def lookSharpRow : OpenClaim := { program := "ytpicjflhhgildaa", sum := "5e709fafc6b05e248f4ada59d55b2bd175ad9e1d93c672016b5fed5f7c82d071", func := "mendkernel/mklaw11.LookSharp", spec := "lookSharp", unfollowed := true, recurses := true, apart := false }
def LookSharpSaid : Prop := lookSharpRow.holds Try.pinned (OpenSpec.ofChange lookSharpSpec)

/-- ITS FALSE NEIGHBOUR: 'it returns false'. Refute it at one input. -/
def lookSharpWrong : ChangeSpec := { name := "lookSharp", fn := fun _ => fun
  | [d1, d2, d3, d4, d5] => { results := [.lit (.bool false)], args := [d1, d2, d3, d4, d5] }
  | _ => none }
def LookSharpWrongFalsely : Prop := lookSharpRow.holds Try.pinned (OpenSpec.ofChange lookSharpWrong)

/-- 'mklaw7.ServeTells': WHATEVER THE INPUT: true; the input reads as it did. -/
def serveTellsSpec : ChangeSpec := { name := "serveTells", fn := fun _ => fun
  | [d1, d2, d3] => { results := [.lit (.bool true)], args := [d1, d2, d3] }
  | _ => none }
def serveTellsRow : OpenClaim := { program := "ytpicjflhhgildaa", sum := "5e709fafc6b05e248f4ada59d55b2bd175ad9e1d93c672016b5fed5f7c82d071", func := "mendkernel/mklaw7.ServeTells", spec := "serveTells", unfollowed := true, recurses := true, apart := false }
def ServeTellsSaid : Prop := serveTellsRow.holds Try.pinned (OpenSpec.ofChange serveTellsSpec)

/-- ITS FALSE NEIGHBOUR: 'it returns false'. Refute it at one input. -/
def serveTellsWrong : ChangeSpec := { name := "serveTells", fn := fun _ => fun
  | [d1, d2, d3] => { results := [.lit (.bool false)], args := [d1, d2, d3] }
  | _ => none }
def ServeTellsWrongFalsely : Prop := serveTellsRow.holds Try.pinned (OpenSpec.ofChange serveTellsWrong)

/-- 'mklaw7.ServeOnce': WHATEVER THE INPUT: true; the input reads as it did. -/
def serveOnceSpec : ChangeSpec := { name := "serveOnce", fn := fun _ => fun
  | [d1, d2, d3] => { results := [.lit (.bool true)], args := [d1, d2, d3] }
  | _ => none }
def serveOnceRow : OpenClaim := { program := "ytpicjflhhgildaa", sum := "5e709fafc6b05e248f4ada59d55b2bd175ad9e1d93c672016b5fed5f7c82d071", func := "mendkernel/mklaw7.ServeOnce", spec := "serveOnce", unfollowed := true, recurses := true, apart := false }
def ServeOnceSaid : Prop := serveOnceRow.holds Try.pinned (OpenSpec.ofChange serveOnceSpec)

/-- ITS FALSE NEIGHBOUR: 'it returns false'. Refute it at one input. -/
def serveOnceWrong : ChangeSpec := { name := "serveOnce", fn := fun _ => fun
  | [d1, d2, d3] => { results := [.lit (.bool false)], args := [d1, d2, d3] }
  | _ => none }
def ServeOnceWrongFalsely : Prop := serveOnceRow.holds Try.pinned (OpenSpec.ofChange serveOnceWrong)

/-- 'mklaw7.ServeDoes': WHATEVER THE INPUT: true; the input reads as it did. -/
def serveDoesSpec : ChangeSpec := { name := "serveDoes", fn := fun _ => fun
  | [d1, d2, d3] => { results := [.lit (.bool true)], args := [d1, d2, d3] }
  | _ => none }
def serveDoesRow : OpenClaim := { program := "ytpicjflhhgildaa", sum := "5e709fafc6b05e248f4ada59d55b2bd175ad9e1d93c672016b5fed5f7c82d071", func := "mendkernel/mklaw7.ServeDoes", spec := "serveDoes", unfollowed := true, recurses := true, apart := false }
def ServeDoesSaid : Prop := serveDoesRow.holds Try.pinned (OpenSpec.ofChange serveDoesSpec)

/-- ITS FALSE NEIGHBOUR: 'it returns false'. Refute it at one input. -/
def serveDoesWrong : ChangeSpec := { name := "serveDoes", fn := fun _ => fun
  | [d1, d2, d3] => { results := [.lit (.bool false)], args := [d1, d2, d3] }
  | _ => none }
def ServeDoesWrongFalsely : Prop := serveDoesRow.holds Try.pinned (OpenSpec.ofChange serveDoesWrong)

/-- 'mklaw10.MachineTells': WHATEVER THE INPUT: true; the input reads as it did. -/
def machineTellsSpec : ChangeSpec := { name := "machineTells", fn := fun _ => fun
  | [d1, d2, d3] => { results := [.lit (.bool true)], args := [d1, d2, d3] }
  | _ => none }
def machineTellsRow : OpenClaim := { program := "ytpicjflhhgildaa", sum := "5e709fafc6b05e248f4ada59d55b2bd175ad9e1d93c672016b5fed5f7c82d071", func := "mendkernel/mklaw10.MachineTells", spec := "machineTells", unfollowed := true, recurses := true, apart := false }
def MachineTellsSaid : Prop := machineTellsRow.holds Try.pinned (OpenSpec.ofChange machineTellsSpec)

/-- ITS FALSE NEIGHBOUR: 'it returns false'. Refute it at one input. -/
def machineTellsWrong : ChangeSpec := { name := "machineTells", fn := fun _ => fun
  | [d1, d2, d3] => { results := [.lit (.bool false)], args := [d1, d2, d3] }
  | _ => none }
def MachineTellsWrongFalsely : Prop := machineTellsRow.holds Try.pinned (OpenSpec.ofChange machineTellsWrong)

/-- 'mklaw10.MachineSame': WHATEVER THE INPUT: true; the input reads as it did. -/
def machineSameSpec : ChangeSpec := { name := "machineSame", fn := fun _ => fun
  | [d1, d2, d3] => { results := [.lit (.bool true)], args := [d1, d2, d3] }
  | _ => none }
def machineSameRow : OpenClaim := { program := "ytpicjflhhgildaa", sum := "5e709fafc6b05e248f4ada59d55b2bd175ad9e1d93c672016b5fed5f7c82d071", func := "mendkernel/mklaw10.MachineSame", spec := "machineSame", unfollowed := true, recurses := true, apart := false }
def MachineSameSaid : Prop := machineSameRow.holds Try.pinned (OpenSpec.ofChange machineSameSpec)

/-- ITS FALSE NEIGHBOUR: 'it returns false'. Refute it at one input. -/
def machineSameWrong : ChangeSpec := { name := "machineSame", fn := fun _ => fun
  | [d1, d2, d3] => { results := [.lit (.bool false)], args := [d1, d2, d3] }
  | _ => none }
def MachineSameWrongFalsely : Prop := machineSameRow.holds Try.pinned (OpenSpec.ofChange machineSameWrong)

/-- 'mklaw10.MachineOnce': WHATEVER THE INPUT: true; the input reads as it did. -/
def machineOnceSpec : ChangeSpec := { name := "machineOnce", fn := fun _ => fun
  | [d1, d2, d3] => { results := [.lit (.bool true)], args := [d1, d2, d3] }
  | _ => none }
def machineOnceRow : OpenClaim := { program := "ytpicjflhhgildaa", sum := "5e709fafc6b05e248f4ada59d55b2bd175ad9e1d93c672016b5fed5f7c82d071", func := "mendkernel/mklaw10.MachineOnce", spec := "machineOnce", unfollowed := true, recurses := true, apart := false }
def MachineOnceSaid : Prop := machineOnceRow.holds Try.pinned (OpenSpec.ofChange machineOnceSpec)

/-- ITS FALSE NEIGHBOUR: 'it returns false'. Refute it at one input. -/
def machineOnceWrong : ChangeSpec := { name := "machineOnce", fn := fun _ => fun
  | [d1, d2, d3] => { results := [.lit (.bool false)], args := [d1, d2, d3] }
  | _ => none }
def MachineOnceWrongFalsely : Prop := machineOnceRow.holds Try.pinned (OpenSpec.ofChange machineOnceWrong)

/-- 'mklaw10.MachineOrder': WHATEVER THE INPUT: true; the input reads as it did. -/
def machineOrderSpec : ChangeSpec := { name := "machineOrder", fn := fun _ => fun
  | [d1, d2, d3] => { results := [.lit (.bool true)], args := [d1, d2, d3] }
  | _ => none }
def machineOrderRow : OpenClaim := { program := "ytpicjflhhgildaa", sum := "5e709fafc6b05e248f4ada59d55b2bd175ad9e1d93c672016b5fed5f7c82d071", func := "mendkernel/mklaw10.MachineOrder", spec := "machineOrder", unfollowed := true, recurses := true, apart := false }
def MachineOrderSaid : Prop := machineOrderRow.holds Try.pinned (OpenSpec.ofChange machineOrderSpec)

/-- ITS FALSE NEIGHBOUR: 'it returns false'. Refute it at one input. -/
def machineOrderWrong : ChangeSpec := { name := "machineOrder", fn := fun _ => fun
  | [d1, d2, d3] => { results := [.lit (.bool false)], args := [d1, d2, d3] }
  | _ => none }
def MachineOrderWrongFalsely : Prop := machineOrderRow.holds Try.pinned (OpenSpec.ofChange machineOrderWrong)

/-- 'mklaw12.FairTells': WHATEVER THE INPUT: true; the input reads as it did. -/
def fairTellsSpec : ChangeSpec := { name := "fairTells", fn := fun _ => fun
  | [d1, d2] => { results := [.lit (.bool true)], args := [d1, d2] }
  | _ => none }
def fairTellsRow : OpenClaim := { program := "ytpicjflhhgildaa", sum := "5e709fafc6b05e248f4ada59d55b2bd175ad9e1d93c672016b5fed5f7c82d071", func := "mendkernel/mklaw12.FairTells", spec := "fairTells", unfollowed := true, recurses := true, apart := false }
def FairTellsSaid : Prop := fairTellsRow.holds Try.pinned (OpenSpec.ofChange fairTellsSpec)

/-- ITS FALSE NEIGHBOUR: 'it returns false'. Refute it at one input. -/
def fairTellsWrong : ChangeSpec := { name := "fairTells", fn := fun _ => fun
  | [d1, d2] => { results := [.lit (.bool false)], args := [d1, d2] }
  | _ => none }
def FairTellsWrongFalsely : Prop := fairTellsRow.holds Try.pinned (OpenSpec.ofChange fairTellsWrong)

/-- 'mklaw12.FairEnds': WHATEVER THE INPUT: true; the input reads as it did. -/
def fairEndsSpec : ChangeSpec := { name := "fairEnds", fn := fun _ => fun
  | [d1, d2] => { results := [.lit (.bool true)], args := [d1, d2] }
  | _ => none }
def fairEndsRow : OpenClaim := { program := "ytpicjflhhgildaa", sum := "5e709fafc6b05e248f4ada59d55b2bd175ad9e1d93c672016b5fed5f7c82d071", func := "mendkernel/mklaw12.FairEnds", spec := "fairEnds", unfollowed := true, recurses := true, apart := false }
def FairEndsSaid : Prop := fairEndsRow.holds Try.pinned (OpenSpec.ofChange fairEndsSpec)

/-- ITS FALSE NEIGHBOUR: 'it returns false'. Refute it at one input. -/
def fairEndsWrong : ChangeSpec := { name := "fairEnds", fn := fun _ => fun
  | [d1, d2] => { results := [.lit (.bool false)], args := [d1, d2] }
  | _ => none }
def FairEndsWrongFalsely : Prop := fairEndsRow.holds Try.pinned (OpenSpec.ofChange fairEndsWrong)

/-- 'mklaw12.FairAlone': WHATEVER THE INPUT: true; the input reads as it did. -/
def fairAloneSpec : ChangeSpec := { name := "fairAlone", fn := fun _ => fun
  | [d1, d2] => { results := [.lit (.bool true)], args := [d1, d2] }
  | _ => none }
def fairAloneRow : OpenClaim := { program := "ytpicjflhhgildaa", sum := "5e709fafc6b05e248f4ada59d55b2bd175ad9e1d93c672016b5fed5f7c82d071", func := "mendkernel/mklaw12.FairAlone", spec := "fairAlone", unfollowed := true, recurses := true, apart := false }
def FairAloneSaid : Prop := fairAloneRow.holds Try.pinned (OpenSpec.ofChange fairAloneSpec)

/-- ITS FALSE NEIGHBOUR: 'it returns false'. Refute it at one input. -/
def fairAloneWrong : ChangeSpec := { name := "fairAlone", fn := fun _ => fun
  | [d1, d2] => { results := [.lit (.bool false)], args := [d1, d2] }
  | _ => none }
def FairAloneWrongFalsely : Prop := fairAloneRow.holds Try.pinned (OpenSpec.ofChange fairAloneWrong)

/- THE SECOND FORM. 'bulk': how many values and letters a reading holds, each counted each time it is reached (what is shared counts as often as it is met; a slice's spare places count too). A statement '..UptoSaid' is the law's where the arguments, and the package variables that the reading takes, are together of bulk at most 1048576: NARROWER than '..Said'. Prove '..Said' where nothing that the law and all that it calls make is longer than what came in: it says more and counts as full. Else prove '..UptoSaid'. A law counts once. -/
mutual
def uptoBulk {H : Type} : DataW H → Nat
  | .lit (.string bytes) => bytes.length + 1
  | .lit _ => 1
  | .nil => 1
  | .ptr d => uptoBulk d + 1
  | .slice elems spare => uptoBulkAll elems + uptoBulkAll spare + 1
  | .agg parts => uptoBulkAll parts + 1
  | .iface _ d => uptoBulk d + 1
  | .map entries => uptoBulkEntries entries + 1
  | .held _ => 1
def uptoBulkAll {H : Type} : List (DataW H) → Nat
  | [] => 0
  | d :: r => uptoBulk d + uptoBulkAll r
def uptoBulkEntries {H : Type} : List (Lit × DataW H) → Nat
  | [] => 0
  | x :: r => uptoBulkEntry x + uptoBulkEntries r
def uptoBulkEntry {H : Type} : Lit × DataW H → Nat
  | (.string bytes, d) => bytes.length + uptoBulk d + 1
  | (_, d) => uptoBulk d + 1
 end
def uptoSmall : (H : Type) → List (DataW H) → Bool := fun _ ds => decide (uptoBulkAll ds ≤ 1048576)
def OpenSpec.upto (s : _root_.Go.ChangeSpec) : _root_.Go.OpenSpec := { _root_.Go.OpenSpec.ofChange s with cond := some uptoSmall }

/-- 'mklaw4.PlanTells', WHERE WHAT IT READS IS OF BULK AT MOST 1048576: true; the input reads as it did. -/
def planTellsUptoRow : OpenClaim := { program := "ytpicjflhhgildaa", sum := "5e709fafc6b05e248f4ada59d55b2bd175ad9e1d93c672016b5fed5f7c82d071", func := "mendkernel/mklaw4.PlanTells", spec := "planTells", unfollowed := true, recurses := true, apart := false, narrowed := true }
def PlanTellsUptoSaid : Prop := planTellsUptoRow.holds Try.pinned (OpenSpec.upto planTellsSpec)

/-- 'mklaw4.PlanModel', WHERE WHAT IT READS IS OF BULK AT MOST 1048576: true; the input reads as it did. -/
def planModelUptoRow : OpenClaim := { program := "ytpicjflhhgildaa", sum := "5e709fafc6b05e248f4ada59d55b2bd175ad9e1d93c672016b5fed5f7c82d071", func := "mendkernel/mklaw4.PlanModel", spec := "planModel", unfollowed := true, recurses := true, apart := false, narrowed := true }
def PlanModelUptoSaid : Prop := planModelUptoRow.holds Try.pinned (OpenSpec.upto planModelSpec)

/-- 'mklaw4.PlanLate', WHERE WHAT IT READS IS OF BULK AT MOST 1048576: true; the input reads as it did. -/
def planLateUptoRow : OpenClaim := { program := "ytpicjflhhgildaa", sum := "5e709fafc6b05e248f4ada59d55b2bd175ad9e1d93c672016b5fed5f7c82d071", func := "mendkernel/mklaw4.PlanLate", spec := "planLate", apart := false, narrowed := true }
def PlanLateUptoSaid : Prop := planLateUptoRow.holds Try.pinned (OpenSpec.upto planLateSpec)

/-- 'mklaw5.WireTells', WHERE WHAT IT READS IS OF BULK AT MOST 1048576: true; the input reads as it did. -/
def wireTellsUptoRow : OpenClaim := { program := "ytpicjflhhgildaa", sum := "5e709fafc6b05e248f4ada59d55b2bd175ad9e1d93c672016b5fed5f7c82d071", func := "mendkernel/mklaw5.WireTells", spec := "wireTells", unfollowed := true, recurses := true, apart := false, narrowed := true }
def WireTellsUptoSaid : Prop := wireTellsUptoRow.holds Try.pinned (OpenSpec.upto wireTellsSpec)

/-- 'mklaw5.WireUnlike', WHERE WHAT IT READS IS OF BULK AT MOST 1048576: true; the input reads as it did. -/
def wireUnlikeUptoRow : OpenClaim := { program := "ytpicjflhhgildaa", sum := "5e709fafc6b05e248f4ada59d55b2bd175ad9e1d93c672016b5fed5f7c82d071", func := "mendkernel/mklaw5.WireUnlike", spec := "wireUnlike", unfollowed := true, recurses := true, apart := false, narrowed := true }
def WireUnlikeUptoSaid : Prop := wireUnlikeUptoRow.holds Try.pinned (OpenSpec.upto wireUnlikeSpec)

/-- 'mklaw5.WireTurns', WHERE WHAT IT READS IS OF BULK AT MOST 1048576: true; the input reads as it did. -/
def wireTurnsUptoRow : OpenClaim := { program := "ytpicjflhhgildaa", sum := "5e709fafc6b05e248f4ada59d55b2bd175ad9e1d93c672016b5fed5f7c82d071", func := "mendkernel/mklaw5.WireTurns", spec := "wireTurns", unfollowed := true, recurses := true, apart := false, narrowed := true }
def WireTurnsUptoSaid : Prop := wireTurnsUptoRow.holds Try.pinned (OpenSpec.upto wireTurnsSpec)

/-- 'mklaw6.StoreTells', WHERE WHAT IT READS IS OF BULK AT MOST 1048576: true; the input reads as it did. -/
def storeTellsUptoRow : OpenClaim := { program := "ytpicjflhhgildaa", sum := "5e709fafc6b05e248f4ada59d55b2bd175ad9e1d93c672016b5fed5f7c82d071", func := "mendkernel/mklaw6.StoreTells", spec := "storeTells", apart := false, narrowed := true }
def StoreTellsUptoSaid : Prop := storeTellsUptoRow.holds Try.pinned (OpenSpec.upto storeTellsSpec)

/-- 'mklaw6.StoreLast', WHERE WHAT IT READS IS OF BULK AT MOST 1048576: true; the input reads as it did. -/
def storeLastUptoRow : OpenClaim := { program := "ytpicjflhhgildaa", sum := "5e709fafc6b05e248f4ada59d55b2bd175ad9e1d93c672016b5fed5f7c82d071", func := "mendkernel/mklaw6.StoreLast", spec := "storeLast", apart := false, narrowed := true }
def StoreLastUptoSaid : Prop := storeLastUptoRow.holds Try.pinned (OpenSpec.upto storeLastSpec)

/-- 'mklaw6.StoreBack', WHERE WHAT IT READS IS OF BULK AT MOST 1048576: true; the input reads as it did. -/
def storeBackUptoRow : OpenClaim := { program := "ytpicjflhhgildaa", sum := "5e709fafc6b05e248f4ada59d55b2bd175ad9e1d93c672016b5fed5f7c82d071", func := "mendkernel/mklaw6.StoreBack", spec := "storeBack", apart := false, narrowed := true }
def StoreBackUptoSaid : Prop := storeBackUptoRow.holds Try.pinned (OpenSpec.upto storeBackSpec)

/-- 'mklaw9.ClientTells', WHERE WHAT IT READS IS OF BULK AT MOST 1048576: true; the input reads as it did. -/
def clientTellsUptoRow : OpenClaim := { program := "ytpicjflhhgildaa", sum := "5e709fafc6b05e248f4ada59d55b2bd175ad9e1d93c672016b5fed5f7c82d071", func := "mendkernel/mklaw9.ClientTells", spec := "clientTells", unfollowed := true, recurses := true, apart := false, narrowed := true }
def ClientTellsUptoSaid : Prop := clientTellsUptoRow.holds Try.pinned (OpenSpec.upto clientTellsSpec)

/-- 'mktop.Names', WHERE WHAT IT READS IS OF BULK AT MOST 1048576: true; the input reads as it did. -/
def namesUptoRow : OpenClaim := { program := "ytpicjflhhgildaa", sum := "5e709fafc6b05e248f4ada59d55b2bd175ad9e1d93c672016b5fed5f7c82d071", func := "mendkernel/mktop.Names", spec := "names", apart := false, narrowed := true }
def NamesUptoSaid : Prop := namesUptoRow.holds Try.pinned (OpenSpec.upto namesSpec)

/-- 'mklaw9.ClientAgain', WHERE WHAT IT READS IS OF BULK AT MOST 1048576: true; the input reads as it did. -/
def clientAgainUptoRow : OpenClaim := { program := "ytpicjflhhgildaa", sum := "5e709fafc6b05e248f4ada59d55b2bd175ad9e1d93c672016b5fed5f7c82d071", func := "mendkernel/mklaw9.ClientAgain", spec := "clientAgain", unfollowed := true, recurses := true, apart := false, narrowed := true }
def ClientAgainUptoSaid : Prop := clientAgainUptoRow.holds Try.pinned (OpenSpec.upto clientAgainSpec)

/-- 'mklaw9.ClientDeaf', WHERE WHAT IT READS IS OF BULK AT MOST 1048576: true; the input reads as it did. -/
def clientDeafUptoRow : OpenClaim := { program := "ytpicjflhhgildaa", sum := "5e709fafc6b05e248f4ada59d55b2bd175ad9e1d93c672016b5fed5f7c82d071", func := "mendkernel/mklaw9.ClientDeaf", spec := "clientDeaf", unfollowed := true, recurses := true, apart := false, narrowed := true }
def ClientDeafUptoSaid : Prop := clientDeafUptoRow.holds Try.pinned (OpenSpec.upto clientDeafSpec)

/-- 'mklaw1.CellTells', WHERE WHAT IT READS IS OF BULK AT MOST 1048576: true; the input reads as it did. -/
def cellTellsUptoRow : OpenClaim := { program := "ytpicjflhhgildaa", sum := "5e709fafc6b05e248f4ada59d55b2bd175ad9e1d93c672016b5fed5f7c82d071", func := "mendkernel/mklaw1.CellTells", spec := "cellTells", apart := false, narrowed := true }
def CellTellsUptoSaid : Prop := cellTellsUptoRow.holds Try.pinned (OpenSpec.upto cellTellsSpec)

/-- 'mklaw1.CellApart', WHERE WHAT IT READS IS OF BULK AT MOST 1048576: true; the input reads as it did. -/
def cellApartUptoRow : OpenClaim := { program := "ytpicjflhhgildaa", sum := "5e709fafc6b05e248f4ada59d55b2bd175ad9e1d93c672016b5fed5f7c82d071", func := "mendkernel/mklaw1.CellApart", spec := "cellApart", apart := false, narrowed := true }
def CellApartUptoSaid : Prop := cellApartUptoRow.holds Try.pinned (OpenSpec.upto cellApartSpec)

/-- 'mklaw1.CellBack', WHERE WHAT IT READS IS OF BULK AT MOST 1048576: true; the input reads as it did. -/
def cellBackUptoRow : OpenClaim := { program := "ytpicjflhhgildaa", sum := "5e709fafc6b05e248f4ada59d55b2bd175ad9e1d93c672016b5fed5f7c82d071", func := "mendkernel/mklaw1.CellBack", spec := "cellBack", apart := false, narrowed := true }
def CellBackUptoSaid : Prop := cellBackUptoRow.holds Try.pinned (OpenSpec.upto cellBackSpec)

/-- 'mklaw8.GuardTells', WHERE WHAT IT READS IS OF BULK AT MOST 1048576: true; the input reads as it did. -/
def guardTellsUptoRow : OpenClaim := { program := "ytpicjflhhgildaa", sum := "5e709fafc6b05e248f4ada59d55b2bd175ad9e1d93c672016b5fed5f7c82d071", func := "mendkernel/mklaw8.GuardTells", spec := "guardTells", unfollowed := true, recurses := true, apart := false, narrowed := true }
def GuardTellsUptoSaid : Prop := guardTellsUptoRow.holds Try.pinned (OpenSpec.upto guardTellsSpec)

/-- 'mklaw8.GuardKeeps', WHERE WHAT IT READS IS OF BULK AT MOST 1048576: true; the input reads as it did. -/
def guardKeepsUptoRow : OpenClaim := { program := "ytpicjflhhgildaa", sum := "5e709fafc6b05e248f4ada59d55b2bd175ad9e1d93c672016b5fed5f7c82d071", func := "mendkernel/mklaw8.GuardKeeps", spec := "guardKeeps", unfollowed := true, recurses := true, apart := false, narrowed := true }
def GuardKeepsUptoSaid : Prop := guardKeepsUptoRow.holds Try.pinned (OpenSpec.upto guardKeepsSpec)

/-- 'mklaw8.GuardUp', WHERE WHAT IT READS IS OF BULK AT MOST 1048576: true; the input reads as it did. -/
def guardUpUptoRow : OpenClaim := { program := "ytpicjflhhgildaa", sum := "5e709fafc6b05e248f4ada59d55b2bd175ad9e1d93c672016b5fed5f7c82d071", func := "mendkernel/mklaw8.GuardUp", spec := "guardUp", unfollowed := true, recurses := true, apart := false, narrowed := true }
def GuardUpUptoSaid : Prop := guardUpUptoRow.holds Try.pinned (OpenSpec.upto guardUpSpec)

/-- 'mklaw2.ModelTells', WHERE WHAT IT READS IS OF BULK AT MOST 1048576: true; the input reads as it did. -/
def modelTellsUptoRow : OpenClaim := { program := "ytpicjflhhgildaa", sum := "5e709fafc6b05e248f4ada59d55b2bd175ad9e1d93c672016b5fed5f7c82d071", func := "mendkernel/mklaw2.ModelTells", spec := "modelTells", unfollowed := true, recurses := true, apart := false, narrowed := true }
def ModelTellsUptoSaid : Prop := modelTellsUptoRow.holds Try.pinned (OpenSpec.upto modelTellsSpec)

/-- 'mklaw2.ModelRight', WHERE WHAT IT READS IS OF BULK AT MOST 1048576: true; the input reads as it did. -/
def modelRightUptoRow : OpenClaim := { program := "ytpicjflhhgildaa", sum := "5e709fafc6b05e248f4ada59d55b2bd175ad9e1d93c672016b5fed5f7c82d071", func := "mendkernel/mklaw2.ModelRight", spec := "modelRight", unfollowed := true, recurses := true, apart := false, narrowed := true }
def ModelRightUptoSaid : Prop := modelRightUptoRow.holds Try.pinned (OpenSpec.upto modelRightSpec)

/-- 'mklaw2.ModelSwap', WHERE WHAT IT READS IS OF BULK AT MOST 1048576: true; the input reads as it did. -/
def modelSwapUptoRow : OpenClaim := { program := "ytpicjflhhgildaa", sum := "5e709fafc6b05e248f4ada59d55b2bd175ad9e1d93c672016b5fed5f7c82d071", func := "mendkernel/mklaw2.ModelSwap", spec := "modelSwap", unfollowed := true, recurses := true, apart := false, narrowed := true }
def ModelSwapUptoSaid : Prop := modelSwapUptoRow.holds Try.pinned (OpenSpec.upto modelSwapSpec)

/-- 'mklaw11.LookTells', WHERE WHAT IT READS IS OF BULK AT MOST 1048576: true; the input reads as it did. -/
def lookTellsUptoRow : OpenClaim := { program := "ytpicjflhhgildaa", sum := "5e709fafc6b05e248f4ada59d55b2bd175ad9e1d93c672016b5fed5f7c82d071", func := "mendkernel/mklaw11.LookTells", spec := "lookTells", unfollowed := true, recurses := true, apart := false, narrowed := true }
def LookTellsUptoSaid : Prop := lookTellsUptoRow.holds Try.pinned (OpenSpec.upto lookTellsSpec)

/-- 'mklaw11.LookWhole', WHERE WHAT IT READS IS OF BULK AT MOST 1048576: true; the input reads as it did. -/
def lookWholeUptoRow : OpenClaim := { program := "ytpicjflhhgildaa", sum := "5e709fafc6b05e248f4ada59d55b2bd175ad9e1d93c672016b5fed5f7c82d071", func := "mendkernel/mklaw11.LookWhole", spec := "lookWhole", unfollowed := true, recurses := true, apart := false, narrowed := true }
def LookWholeUptoSaid : Prop := lookWholeUptoRow.holds Try.pinned (OpenSpec.upto lookWholeSpec)

/-- 'mklaw11.LookSharp', WHERE WHAT IT READS IS OF BULK AT MOST 1048576: true; the input reads as it did. -/
def lookSharpUptoRow : OpenClaim := { program := "ytpicjflhhgildaa", sum := "5e709fafc6b05e248f4ada59d55b2bd175ad9e1d93c672016b5fed5f7c82d071", func := "mendkernel/mklaw11.LookSharp", spec := "lookSharp", unfollowed := true, recurses := true, apart := false, narrowed := true }
def LookSharpUptoSaid : Prop := lookSharpUptoRow.holds Try.pinned (OpenSpec.upto lookSharpSpec)

/-- 'mklaw7.ServeTells', WHERE WHAT IT READS IS OF BULK AT MOST 1048576: true; the input reads as it did. -/
def serveTellsUptoRow : OpenClaim := { program := "ytpicjflhhgildaa", sum := "5e709fafc6b05e248f4ada59d55b2bd175ad9e1d93c672016b5fed5f7c82d071", func := "mendkernel/mklaw7.ServeTells", spec := "serveTells", unfollowed := true, recurses := true, apart := false, narrowed := true }
def ServeTellsUptoSaid : Prop := serveTellsUptoRow.holds Try.pinned (OpenSpec.upto serveTellsSpec)

/-- 'mklaw7.ServeOnce', WHERE WHAT IT READS IS OF BULK AT MOST 1048576: true; the input reads as it did. -/
def serveOnceUptoRow : OpenClaim := { program := "ytpicjflhhgildaa", sum := "5e709fafc6b05e248f4ada59d55b2bd175ad9e1d93c672016b5fed5f7c82d071", func := "mendkernel/mklaw7.ServeOnce", spec := "serveOnce", unfollowed := true, recurses := true, apart := false, narrowed := true }
def ServeOnceUptoSaid : Prop := serveOnceUptoRow.holds Try.pinned (OpenSpec.upto serveOnceSpec)

/-- 'mklaw7.ServeDoes', WHERE WHAT IT READS IS OF BULK AT MOST 1048576: true; the input reads as it did. -/
def serveDoesUptoRow : OpenClaim := { program := "ytpicjflhhgildaa", sum := "5e709fafc6b05e248f4ada59d55b2bd175ad9e1d93c672016b5fed5f7c82d071", func := "mendkernel/mklaw7.ServeDoes", spec := "serveDoes", unfollowed := true, recurses := true, apart := false, narrowed := true }
def ServeDoesUptoSaid : Prop := serveDoesUptoRow.holds Try.pinned (OpenSpec.upto serveDoesSpec)

/-- 'mklaw10.MachineTells', WHERE WHAT IT READS IS OF BULK AT MOST 1048576: true; the input reads as it did. -/
def machineTellsUptoRow : OpenClaim := { program := "ytpicjflhhgildaa", sum := "5e709fafc6b05e248f4ada59d55b2bd175ad9e1d93c672016b5fed5f7c82d071", func := "mendkernel/mklaw10.MachineTells", spec := "machineTells", unfollowed := true, recurses := true, apart := false, narrowed := true }
def MachineTellsUptoSaid : Prop := machineTellsUptoRow.holds Try.pinned (OpenSpec.upto machineTellsSpec)

/-- 'mklaw10.MachineSame', WHERE WHAT IT READS IS OF BULK AT MOST 1048576: true; the input reads as it did. -/
def machineSameUptoRow : OpenClaim := { program := "ytpicjflhhgildaa", sum := "5e709fafc6b05e248f4ada59d55b2bd175ad9e1d93c672016b5fed5f7c82d071", func := "mendkernel/mklaw10.MachineSame", spec := "machineSame", unfollowed := true, recurses := true, apart := false, narrowed := true }
def MachineSameUptoSaid : Prop := machineSameUptoRow.holds Try.pinned (OpenSpec.upto machineSameSpec)

/-- 'mklaw10.MachineOnce', WHERE WHAT IT READS IS OF BULK AT MOST 1048576: true; the input reads as it did. -/
def machineOnceUptoRow : OpenClaim := { program := "ytpicjflhhgildaa", sum := "5e709fafc6b05e248f4ada59d55b2bd175ad9e1d93c672016b5fed5f7c82d071", func := "mendkernel/mklaw10.MachineOnce", spec := "machineOnce", unfollowed := true, recurses := true, apart := false, narrowed := true }
def MachineOnceUptoSaid : Prop := machineOnceUptoRow.holds Try.pinned (OpenSpec.upto machineOnceSpec)

/-- 'mklaw10.MachineOrder', WHERE WHAT IT READS IS OF BULK AT MOST 1048576: true; the input reads as it did. -/
def machineOrderUptoRow : OpenClaim := { program := "ytpicjflhhgildaa", sum := "5e709fafc6b05e248f4ada59d55b2bd175ad9e1d93c672016b5fed5f7c82d071", func := "mendkernel/mklaw10.MachineOrder", spec := "machineOrder", unfollowed := true, recurses := true, apart := false, narrowed := true }
def MachineOrderUptoSaid : Prop := machineOrderUptoRow.holds Try.pinned (OpenSpec.upto machineOrderSpec)

/-- 'mklaw12.FairTells', WHERE WHAT IT READS IS OF BULK AT MOST 1048576: true; the input reads as it did. -/
def fairTellsUptoRow : OpenClaim := { program := "ytpicjflhhgildaa", sum := "5e709fafc6b05e248f4ada59d55b2bd175ad9e1d93c672016b5fed5f7c82d071", func := "mendkernel/mklaw12.FairTells", spec := "fairTells", unfollowed := true, recurses := true, apart := false, narrowed := true }
def FairTellsUptoSaid : Prop := fairTellsUptoRow.holds Try.pinned (OpenSpec.upto fairTellsSpec)

/-- 'mklaw12.FairEnds', WHERE WHAT IT READS IS OF BULK AT MOST 1048576: true; the input reads as it did. -/
def fairEndsUptoRow : OpenClaim := { program := "ytpicjflhhgildaa", sum := "5e709fafc6b05e248f4ada59d55b2bd175ad9e1d93c672016b5fed5f7c82d071", func := "mendkernel/mklaw12.FairEnds", spec := "fairEnds", unfollowed := true, recurses := true, apart := false, narrowed := true }
def FairEndsUptoSaid : Prop := fairEndsUptoRow.holds Try.pinned (OpenSpec.upto fairEndsSpec)

/-- 'mklaw12.FairAlone', WHERE WHAT IT READS IS OF BULK AT MOST 1048576: true; the input reads as it did. -/
def fairAloneUptoRow : OpenClaim := { program := "ytpicjflhhgildaa", sum := "5e709fafc6b05e248f4ada59d55b2bd175ad9e1d93c672016b5fed5f7c82d071", func := "mendkernel/mklaw12.FairAlone", spec := "fairAlone", unfollowed := true, recurses := true, apart := false, narrowed := true }
def FairAloneUptoSaid : Prop := fairAloneUptoRow.holds Try.pinned (OpenSpec.upto fairAloneSpec)

end Rows
end Go.Proofs.Ytpicjflhhgildaa
