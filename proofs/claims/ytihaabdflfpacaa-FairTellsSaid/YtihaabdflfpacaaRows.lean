/-
  No cell of these rows narrows 'for every input' (looked for: loops, veiled, ifaces, maps, wideKeys, modest, calm, conditions, laid).
  DERIVED. THE GIVEN ROWS OF THIS SEAT. 13 by the template 'for every input the law returns true; each argument reads behind the call as it read before'; 0 by the template 'total and deterministic' (their statements: YtihaabdflfpacaaTotals.lean).
  GIVEN WITH THE SEED: the statements are not yours to turn. If you find one false, say at which input.
  Laid BY PROGRAM, IN A SANDBOX (cutbox-rows.mjs): the forced cells as the released guide's own fill.sh prints them over the translation 9b516b76dd196bf8… (all of the seat's roots in one cut). By AI agents, Wed Nov 11 2026. No macro, syntax, notation, axiom, sorry.
-/
import Derived.Test.YtihaabdflfpacaaChecked
import GoSem.Claim
import GoSem.ClaimJoined
import GoSem.ClaimMapViews
import Derived.JoinedTies
import Derived.KernelRfl
namespace Go.Proofs.Ytihaabdflfpacaa
/- THE CELL 'sum', in the pinned program and in every row, IS THE sha256 OF THE DUMP (.gsa) THAT YtihaabdflfpacaaProg.lean LOADS. Nothing in Lean hashes anything: it is a label: what it is worth is what the hold of that sum in a sandbox is worth. -/
noncomputable def Try.pinned : Pinned := { name := "ytihaabdflfpacaa", sum := "9b516b76dd196bf808ce5ed2a83f9712bebab631adfa4931c526f528410658fa", checked := Try.checked }
namespace Rows
def none {H : Type} : Left H := { results := [], args := [] }

/-- 'mklaw11.LookTells': WHATEVER THE INPUT: true; the input reads as it did. -/
def lookTellsSpec : ChangeSpec := { name := "lookTells", fn := fun _ => fun
  | [d1, d2, d3] => { results := [.lit (.bool true)], args := [d1, d2, d3] }
  | _ => none }
def lookTellsRow : OpenClaim := { program := "ytihaabdflfpacaa", sum := "9b516b76dd196bf808ce5ed2a83f9712bebab631adfa4931c526f528410658fa", func := "mendkernel/mklaw11.LookTells", spec := "lookTells", unfollowed := true, recurses := true, apart := false }
def LookTellsSaid : Prop := lookTellsRow.holds Try.pinned (OpenSpec.ofChange lookTellsSpec)

/-- ITS FALSE NEIGHBOUR: 'it returns false'. Refute it at one input. -/
def lookTellsWrong : ChangeSpec := { name := "lookTells", fn := fun _ => fun
  | [d1, d2, d3] => { results := [.lit (.bool false)], args := [d1, d2, d3] }
  | _ => none }
def LookTellsWrongFalsely : Prop := lookTellsRow.holds Try.pinned (OpenSpec.ofChange lookTellsWrong)

/-- 'mklaw11.LookWhole': WHATEVER THE INPUT: true; the input reads as it did. -/
def lookWholeSpec : ChangeSpec := { name := "lookWhole", fn := fun _ => fun
  | [d1, d2] => { results := [.lit (.bool true)], args := [d1, d2] }
  | _ => none }
def lookWholeRow : OpenClaim := { program := "ytihaabdflfpacaa", sum := "9b516b76dd196bf808ce5ed2a83f9712bebab631adfa4931c526f528410658fa", func := "mendkernel/mklaw11.LookWhole", spec := "lookWhole", unfollowed := true, recurses := true, apart := false }
def LookWholeSaid : Prop := lookWholeRow.holds Try.pinned (OpenSpec.ofChange lookWholeSpec)

/-- ITS FALSE NEIGHBOUR: 'it returns false'. Refute it at one input. -/
def lookWholeWrong : ChangeSpec := { name := "lookWhole", fn := fun _ => fun
  | [d1, d2] => { results := [.lit (.bool false)], args := [d1, d2] }
  | _ => none }
def LookWholeWrongFalsely : Prop := lookWholeRow.holds Try.pinned (OpenSpec.ofChange lookWholeWrong)

/-- 'mklaw11.LookSharp': WHATEVER THE INPUT: true; the input reads as it did. -/
def lookSharpSpec : ChangeSpec := { name := "lookSharp", fn := fun _ => fun
  | [d1, d2, d3, d4, d5] => { results := [.lit (.bool true)], args := [d1, d2, d3, d4, d5] }
  | _ => none }
def lookSharpRow : OpenClaim := { program := "ytihaabdflfpacaa", sum := "9b516b76dd196bf808ce5ed2a83f9712bebab631adfa4931c526f528410658fa", func := "mendkernel/mklaw11.LookSharp", spec := "lookSharp", unfollowed := true, recurses := true, apart := false }
def LookSharpSaid : Prop := lookSharpRow.holds Try.pinned (OpenSpec.ofChange lookSharpSpec)

/-- ITS FALSE NEIGHBOUR: 'it returns false'. Refute it at one input. -/
def lookSharpWrong : ChangeSpec := { name := "lookSharp", fn := fun _ => fun
  | [d1, d2, d3, d4, d5] => { results := [.lit (.bool false)], args := [d1, d2, d3, d4, d5] }
  | _ => none }
def LookSharpWrongFalsely : Prop := lookSharpRow.holds Try.pinned (OpenSpec.ofChange lookSharpWrong)

/-- 'mklaw7.ServeTells': WHATEVER THE INPUT: true; the input reads as it did. -/
def serveTellsSpec : ChangeSpec := { name := "serveTells", fn := fun _ => fun
  | [d1, d2, d3] => { results := [.lit (.bool true)], args := [d1, d2, d3] }
  | _ => none }
def serveTellsRow : OpenClaim := { program := "ytihaabdflfpacaa", sum := "9b516b76dd196bf808ce5ed2a83f9712bebab631adfa4931c526f528410658fa", func := "mendkernel/mklaw7.ServeTells", spec := "serveTells", unfollowed := true, recurses := true, apart := false }
def ServeTellsSaid : Prop := serveTellsRow.holds Try.pinned (OpenSpec.ofChange serveTellsSpec)

/-- ITS FALSE NEIGHBOUR: 'it returns false'. Refute it at one input. -/
def serveTellsWrong : ChangeSpec := { name := "serveTells", fn := fun _ => fun
  | [d1, d2, d3] => { results := [.lit (.bool false)], args := [d1, d2, d3] }
  | _ => none }
def ServeTellsWrongFalsely : Prop := serveTellsRow.holds Try.pinned (OpenSpec.ofChange serveTellsWrong)

/-- 'mklaw7.ServeOnce': WHATEVER THE INPUT: true; the input reads as it did. -/
def serveOnceSpec : ChangeSpec := { name := "serveOnce", fn := fun _ => fun
  | [d1, d2, d3] => { results := [.lit (.bool true)], args := [d1, d2, d3] }
  | _ => none }
def serveOnceRow : OpenClaim := { program := "ytihaabdflfpacaa", sum := "9b516b76dd196bf808ce5ed2a83f9712bebab631adfa4931c526f528410658fa", func := "mendkernel/mklaw7.ServeOnce", spec := "serveOnce", unfollowed := true, recurses := true, apart := false }
def ServeOnceSaid : Prop := serveOnceRow.holds Try.pinned (OpenSpec.ofChange serveOnceSpec)

/-- ITS FALSE NEIGHBOUR: 'it returns false'. Refute it at one input. -/
def serveOnceWrong : ChangeSpec := { name := "serveOnce", fn := fun _ => fun
  | [d1, d2, d3] => { results := [.lit (.bool false)], args := [d1, d2, d3] }
  | _ => none }
def ServeOnceWrongFalsely : Prop := serveOnceRow.holds Try.pinned (OpenSpec.ofChange serveOnceWrong)

/-- 'mklaw7.ServeDoes': WHATEVER THE INPUT: true; the input reads as it did. -/
def serveDoesSpec : ChangeSpec := { name := "serveDoes", fn := fun _ => fun
  | [d1, d2, d3] => { results := [.lit (.bool true)], args := [d1, d2, d3] }
  | _ => none }
def serveDoesRow : OpenClaim := { program := "ytihaabdflfpacaa", sum := "9b516b76dd196bf808ce5ed2a83f9712bebab631adfa4931c526f528410658fa", func := "mendkernel/mklaw7.ServeDoes", spec := "serveDoes", unfollowed := true, recurses := true, apart := false }
def ServeDoesSaid : Prop := serveDoesRow.holds Try.pinned (OpenSpec.ofChange serveDoesSpec)

/-- ITS FALSE NEIGHBOUR: 'it returns false'. Refute it at one input. -/
def serveDoesWrong : ChangeSpec := { name := "serveDoes", fn := fun _ => fun
  | [d1, d2, d3] => { results := [.lit (.bool false)], args := [d1, d2, d3] }
  | _ => none }
def ServeDoesWrongFalsely : Prop := serveDoesRow.holds Try.pinned (OpenSpec.ofChange serveDoesWrong)

/-- 'mklaw10.MachineTells': WHATEVER THE INPUT: true; the input reads as it did. -/
def machineTellsSpec : ChangeSpec := { name := "machineTells", fn := fun _ => fun
  | [d1, d2, d3] => { results := [.lit (.bool true)], args := [d1, d2, d3] }
  | _ => none }
def machineTellsRow : OpenClaim := { program := "ytihaabdflfpacaa", sum := "9b516b76dd196bf808ce5ed2a83f9712bebab631adfa4931c526f528410658fa", func := "mendkernel/mklaw10.MachineTells", spec := "machineTells", unfollowed := true, recurses := true, apart := false }
def MachineTellsSaid : Prop := machineTellsRow.holds Try.pinned (OpenSpec.ofChange machineTellsSpec)

/-- ITS FALSE NEIGHBOUR: 'it returns false'. Refute it at one input. -/
def machineTellsWrong : ChangeSpec := { name := "machineTells", fn := fun _ => fun
  | [d1, d2, d3] => { results := [.lit (.bool false)], args := [d1, d2, d3] }
  | _ => none }
def MachineTellsWrongFalsely : Prop := machineTellsRow.holds Try.pinned (OpenSpec.ofChange machineTellsWrong)

/-- 'mklaw10.MachineSame': WHATEVER THE INPUT: true; the input reads as it did. -/
def machineSameSpec : ChangeSpec := { name := "machineSame", fn := fun _ => fun
  | [d1, d2, d3] => { results := [.lit (.bool true)], args := [d1, d2, d3] }
  | _ => none }
def machineSameRow : OpenClaim := { program := "ytihaabdflfpacaa", sum := "9b516b76dd196bf808ce5ed2a83f9712bebab631adfa4931c526f528410658fa", func := "mendkernel/mklaw10.MachineSame", spec := "machineSame", unfollowed := true, recurses := true, apart := false }
def MachineSameSaid : Prop := machineSameRow.holds Try.pinned (OpenSpec.ofChange machineSameSpec)

/-- ITS FALSE NEIGHBOUR: 'it returns false'. Refute it at one input. -/
def machineSameWrong : ChangeSpec := { name := "machineSame", fn := fun _ => fun
  | [d1, d2, d3] => { results := [.lit (.bool false)], args := [d1, d2, d3] }
  | _ => none }
def MachineSameWrongFalsely : Prop := machineSameRow.holds Try.pinned (OpenSpec.ofChange machineSameWrong)

/-- 'mklaw10.MachineOnce': WHATEVER THE INPUT: true; the input reads as it did. -/
def machineOnceSpec : ChangeSpec := { name := "machineOnce", fn := fun _ => fun
  | [d1, d2, d3] => { results := [.lit (.bool true)], args := [d1, d2, d3] }
  | _ => none }
def machineOnceRow : OpenClaim := { program := "ytihaabdflfpacaa", sum := "9b516b76dd196bf808ce5ed2a83f9712bebab631adfa4931c526f528410658fa", func := "mendkernel/mklaw10.MachineOnce", spec := "machineOnce", unfollowed := true, recurses := true, apart := false }
def MachineOnceSaid : Prop := machineOnceRow.holds Try.pinned (OpenSpec.ofChange machineOnceSpec)

/-- ITS FALSE NEIGHBOUR: 'it returns false'. Refute it at one input. -/
def machineOnceWrong : ChangeSpec := { name := "machineOnce", fn := fun _ => fun
  | [d1, d2, d3] => { results := [.lit (.bool false)], args := [d1, d2, d3] }
  | _ => none }
def MachineOnceWrongFalsely : Prop := machineOnceRow.holds Try.pinned (OpenSpec.ofChange machineOnceWrong)

/-- 'mklaw10.MachineOrder': WHATEVER THE INPUT: true; the input reads as it did. -/
def machineOrderSpec : ChangeSpec := { name := "machineOrder", fn := fun _ => fun
  | [d1, d2, d3] => { results := [.lit (.bool true)], args := [d1, d2, d3] }
  | _ => none }
def machineOrderRow : OpenClaim := { program := "ytihaabdflfpacaa", sum := "9b516b76dd196bf808ce5ed2a83f9712bebab631adfa4931c526f528410658fa", func := "mendkernel/mklaw10.MachineOrder", spec := "machineOrder", unfollowed := true, recurses := true, apart := false }
def MachineOrderSaid : Prop := machineOrderRow.holds Try.pinned (OpenSpec.ofChange machineOrderSpec)

/-- ITS FALSE NEIGHBOUR: 'it returns false'. Refute it at one input. -/
def machineOrderWrong : ChangeSpec := { name := "machineOrder", fn := fun _ => fun
  | [d1, d2, d3] => { results := [.lit (.bool false)], args := [d1, d2, d3] }
  | _ => none }
def MachineOrderWrongFalsely : Prop := machineOrderRow.holds Try.pinned (OpenSpec.ofChange machineOrderWrong)

/-- 'mklaw12.FairTells': WHATEVER THE INPUT: true; the input reads as it did. -/
def fairTellsSpec : ChangeSpec := { name := "fairTells", fn := fun _ => fun
  | [d1, d2] => { results := [.lit (.bool true)], args := [d1, d2] }
  | _ => none }
def fairTellsRow : OpenClaim := { program := "ytihaabdflfpacaa", sum := "9b516b76dd196bf808ce5ed2a83f9712bebab631adfa4931c526f528410658fa", func := "mendkernel/mklaw12.FairTells", spec := "fairTells", unfollowed := true, recurses := true, apart := false }
def FairTellsSaid : Prop := fairTellsRow.holds Try.pinned (OpenSpec.ofChange fairTellsSpec)

/-- ITS FALSE NEIGHBOUR: 'it returns false'. Refute it at one input. -/
def fairTellsWrong : ChangeSpec := { name := "fairTells", fn := fun _ => fun
  | [d1, d2] => { results := [.lit (.bool false)], args := [d1, d2] }
  | _ => none }
def FairTellsWrongFalsely : Prop := fairTellsRow.holds Try.pinned (OpenSpec.ofChange fairTellsWrong)

/-- 'mklaw12.FairEnds': WHATEVER THE INPUT: true; the input reads as it did. -/
def fairEndsSpec : ChangeSpec := { name := "fairEnds", fn := fun _ => fun
  | [d1, d2] => { results := [.lit (.bool true)], args := [d1, d2] }
  | _ => none }
def fairEndsRow : OpenClaim := { program := "ytihaabdflfpacaa", sum := "9b516b76dd196bf808ce5ed2a83f9712bebab631adfa4931c526f528410658fa", func := "mendkernel/mklaw12.FairEnds", spec := "fairEnds", unfollowed := true, recurses := true, apart := false }
def FairEndsSaid : Prop := fairEndsRow.holds Try.pinned (OpenSpec.ofChange fairEndsSpec)

/-- ITS FALSE NEIGHBOUR: 'it returns false'. Refute it at one input. -/
def fairEndsWrong : ChangeSpec := { name := "fairEnds", fn := fun _ => fun
  | [d1, d2] => { results := [.lit (.bool false)], args := [d1, d2] }
  | _ => none }
def FairEndsWrongFalsely : Prop := fairEndsRow.holds Try.pinned (OpenSpec.ofChange fairEndsWrong)

/-- 'mklaw12.FairAlone': WHATEVER THE INPUT: true; the input reads as it did. -/
def fairAloneSpec : ChangeSpec := { name := "fairAlone", fn := fun _ => fun
  | [d1, d2] => { results := [.lit (.bool true)], args := [d1, d2] }
  | _ => none }
def fairAloneRow : OpenClaim := { program := "ytihaabdflfpacaa", sum := "9b516b76dd196bf808ce5ed2a83f9712bebab631adfa4931c526f528410658fa", func := "mendkernel/mklaw12.FairAlone", spec := "fairAlone", unfollowed := true, recurses := true, apart := false }
def FairAloneSaid : Prop := fairAloneRow.holds Try.pinned (OpenSpec.ofChange fairAloneSpec)

/-- ITS FALSE NEIGHBOUR: 'it returns false'. Refute it at one input. -/
def fairAloneWrong : ChangeSpec := { name := "fairAlone", fn := fun _ => fun
  | [d1, d2] => { results := [.lit (.bool false)], args := [d1, d2] }
  | _ => none }
def FairAloneWrongFalsely : Prop := fairAloneRow.holds Try.pinned (OpenSpec.ofChange fairAloneWrong)

/- THE SECOND FORM. 'bulk': how many values and letters a reading holds, each counted each time it is reached (what is shared counts as often as it is met; a slice's spare places count too). A statement '..UptoSaid' is the law's where the arguments, and the package variables that the reading takes, are together of bulk at most 1048576: NARROWER than '..Said'. Prove '..Said' where nothing that the law and all that it calls make is longer than what came in: it says more and counts as full. Else prove '..UptoSaid'. A law counts once. -/
mutual
def uptoBulk {H : Type} : DataW H → Nat
  | .lit (.string bytes) => bytes.length + 1
  | .lit _ => 1
  | .nil => 1
  | .ptr d => uptoBulk d + 1
  | .slice elems spare => uptoBulkAll elems + uptoBulkAll spare + 1
  | .agg parts => uptoBulkAll parts + 1
  | .iface _ d => uptoBulk d + 1
  | .map entries => uptoBulkEntries entries + 1
  | .held _ => 1
def uptoBulkAll {H : Type} : List (DataW H) → Nat
  | [] => 0
  | d :: r => uptoBulk d + uptoBulkAll r
def uptoBulkEntries {H : Type} : List (Lit × DataW H) → Nat
  | [] => 0
  | x :: r => uptoBulkEntry x + uptoBulkEntries r
def uptoBulkEntry {H : Type} : Lit × DataW H → Nat
  | (.string bytes, d) => bytes.length + uptoBulk d + 1
  | (_, d) => uptoBulk d + 1
 end
def uptoSmall : (H : Type) → List (DataW H) → Bool := fun _ ds => decide (uptoBulkAll ds ≤ 1048576)
def OpenSpec.upto (s : _root_.Go.ChangeSpec) : _root_.Go.OpenSpec := { _root_.Go.OpenSpec.ofChange s with cond := some uptoSmall }

/-- 'mklaw11.LookTells', WHERE WHAT IT READS IS OF BULK AT MOST 1048576: true; the input reads as it did. -/
def lookTellsUptoRow : OpenClaim := { program := "ytihaabdflfpacaa", sum := "9b516b76dd196bf808ce5ed2a83f9712bebab631adfa4931c526f528410658fa", func := "mendkernel/mklaw11.LookTells", spec := "lookTells", unfollowed := true, recurses := true, apart := false, narrowed := true }
def LookTellsUptoSaid : Prop := lookTellsUptoRow.holds Try.pinned (OpenSpec.upto lookTellsSpec)

/-- 'mklaw11.LookWhole', WHERE WHAT IT READS IS OF BULK AT MOST 1048576: true; the input reads as it did. -/
def lookWholeUptoRow : OpenClaim := { program := "ytihaabdflfpacaa", sum := "9b516b76dd196bf808ce5ed2a83f9712bebab631adfa4931c526f528410658fa", func := "mendkernel/mklaw11.LookWhole", spec := "lookWhole", unfollowed := true, recurses := true, apart := false, narrowed := true }
def LookWholeUptoSaid : Prop := lookWholeUptoRow.holds Try.pinned (OpenSpec.upto lookWholeSpec)

/-- 'mklaw11.LookSharp', WHERE WHAT IT READS IS OF BULK AT MOST 1048576: true; the input reads as it did. -/
def lookSharpUptoRow : OpenClaim := { program := "ytihaabdflfpacaa", sum := "9b516b76dd196bf808ce5ed2a83f9712bebab631adfa4931c526f528410658fa", func := "mendkernel/mklaw11.LookSharp", spec := "lookSharp", unfollowed := true, recurses := true, apart := false, narrowed := true }
def LookSharpUptoSaid : Prop := lookSharpUptoRow.holds Try.pinned (OpenSpec.upto lookSharpSpec)

/-- 'mklaw7.ServeTells', WHERE WHAT IT READS IS OF BULK AT MOST 1048576: true; the input reads as it did. -/
def serveTellsUptoRow : OpenClaim := { program := "ytihaabdflfpacaa", sum := "9b516b76dd196bf808ce5ed2a83f9712bebab631adfa4931c526f528410658fa", func := "mendkernel/mklaw7.ServeTells", spec := "serveTells", unfollowed := true, recurses := true, apart := false, narrowed := true }
def ServeTellsUptoSaid : Prop := serveTellsUptoRow.holds Try.pinned (OpenSpec.upto serveTellsSpec)

/-- 'mklaw7.ServeOnce', WHERE WHAT IT READS IS OF BULK AT MOST 1048576: true; the input reads as it did. -/
def serveOnceUptoRow : OpenClaim := { program := "ytihaabdflfpacaa", sum := "9b516b76dd196bf808ce5ed2a83f9712bebab631adfa4931c526f528410658fa", func := "mendkernel/mklaw7.ServeOnce", spec := "serveOnce", unfollowed := true, recurses := true, apart := false, narrowed := true }
def ServeOnceUptoSaid : Prop := serveOnceUptoRow.holds Try.pinned (OpenSpec.upto serveOnceSpec)

/-- 'mklaw7.ServeDoes', WHERE WHAT IT READS IS OF BULK AT MOST 1048576: true; the input reads as it did. -/
def serveDoesUptoRow : OpenClaim := { program := "ytihaabdflfpacaa", sum := "9b516b76dd196bf808ce5ed2a83f9712bebab631adfa4931c526f528410658fa", func := "mendkernel/mklaw7.ServeDoes", spec := "serveDoes", unfollowed := true, recurses := true, apart := false, narrowed := true }
def ServeDoesUptoSaid : Prop := serveDoesUptoRow.holds Try.pinned (OpenSpec.upto serveDoesSpec)

/-- 'mklaw10.MachineTells', WHERE WHAT IT READS IS OF BULK AT MOST 1048576: true; the input reads as it did. -/
def machineTellsUptoRow : OpenClaim := { program := "ytihaabdflfpacaa", sum := "9b516b76dd196bf808ce5ed2a83f9712bebab631adfa4931c526f528410658fa", func := "mendkernel/mklaw10.MachineTells", spec := "machineTells", unfollowed := true, recurses := true, apart := false, narrowed := true }
def MachineTellsUptoSaid : Prop := machineTellsUptoRow.holds Try.pinned (OpenSpec.upto machineTellsSpec)

/-- 'mklaw10.MachineSame', WHERE WHAT IT READS IS OF BULK AT MOST 1048576: true; the input reads as it did. -/
def machineSameUptoRow : OpenClaim := { program := "ytihaabdflfpacaa", sum := "9b516b76dd196bf808ce5ed2a83f9712bebab631adfa4931c526f528410658fa", func := "mendkernel/mklaw10.MachineSame", spec := "machineSame", unfollowed := true, recurses := true, apart := false, narrowed := true }
def MachineSameUptoSaid : Prop := machineSameUptoRow.holds Try.pinned (OpenSpec.upto machineSameSpec)

/-- 'mklaw10.MachineOnce', WHERE WHAT IT READS IS OF BULK AT MOST 1048576: true; the input reads as it did. -/
def machineOnceUptoRow : OpenClaim := { program := "ytihaabdflfpacaa", sum := "9b516b76dd196bf808ce5ed2a83f9712bebab631adfa4931c526f528410658fa", func := "mendkernel/mklaw10.MachineOnce", spec := "machineOnce", unfollowed := true, recurses := true, apart := false, narrowed := true }
def MachineOnceUptoSaid : Prop := machineOnceUptoRow.holds Try.pinned (OpenSpec.upto machineOnceSpec)

/-- 'mklaw10.MachineOrder', WHERE WHAT IT READS IS OF BULK AT MOST 1048576: true; the input reads as it did. -/
def machineOrderUptoRow : OpenClaim := { program := "ytihaabdflfpacaa", sum := "9b516b76dd196bf808ce5ed2a83f9712bebab631adfa4931c526f528410658fa", func := "mendkernel/mklaw10.MachineOrder", spec := "machineOrder", unfollowed := true, recurses := true, apart := false, narrowed := true }
def MachineOrderUptoSaid : Prop := machineOrderUptoRow.holds Try.pinned (OpenSpec.upto machineOrderSpec)

/-- 'mklaw12.FairTells', WHERE WHAT IT READS IS OF BULK AT MOST 1048576: true; the input reads as it did. -/
def fairTellsUptoRow : OpenClaim := { program := "ytihaabdflfpacaa", sum := "9b516b76dd196bf808ce5ed2a83f9712bebab631adfa4931c526f528410658fa", func := "mendkernel/mklaw12.FairTells", spec := "fairTells", unfollowed := true, recurses := true, apart := false, narrowed := true }
def FairTellsUptoSaid : Prop := fairTellsUptoRow.holds Try.pinned (OpenSpec.upto fairTellsSpec)

/-- 'mklaw12.FairEnds', WHERE WHAT IT READS IS OF BULK AT MOST 1048576: true; the input reads as it did. -/
def fairEndsUptoRow : OpenClaim := { program := "ytihaabdflfpacaa", sum := "9b516b76dd196bf808ce5ed2a83f9712bebab631adfa4931c526f528410658fa", func := "mendkernel/mklaw12.FairEnds", spec := "fairEnds", unfollowed := true, recurses := true, apart := false, narrowed := true }
def FairEndsUptoSaid : Prop := fairEndsUptoRow.holds Try.pinned (OpenSpec.upto fairEndsSpec)

/-- 'mklaw12.FairAlone', WHERE WHAT IT READS IS OF BULK AT MOST 1048576: true; the input reads as it did. -/
def fairAloneUptoRow : OpenClaim := { program := "ytihaabdflfpacaa", sum := "9b516b76dd196bf808ce5ed2a83f9712bebab631adfa4931c526f528410658fa", func := "mendkernel/mklaw12.FairAlone", spec := "fairAlone", unfollowed := true, recurses := true, apart := false, narrowed := true }
def FairAloneUptoSaid : Prop := fairAloneUptoRow.holds Try.pinned (OpenSpec.upto fairAloneSpec)

end Rows
end Go.Proofs.Ytihaabdflfpacaa
