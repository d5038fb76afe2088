/- WHAT IS READ OF AN ARGUMENT STANDS FOR A VALUE: for the types of this seat. Printed by gen_types.py. -/
import Derived.Test.YtkmokkhcoombnaaGt
import Derived.Test.YtkmokkhcoombnaaGxO
namespace Go.Gx
set_option linter.unusedVariables false
theorem o3 : Opn Go.Proofs.Try.prog 3 Int := Opn.int (by kernel_rfl) (by kernel_rfl)
theorem o23 : Opn Go.Proofs.Try.prog 23 Mk.Call := Opn.struct (β := Int × Int × Int × Int) (fun y : Int × Int × Int × Int => (⟨y.1, y.2.1, y.2.2.1, y.2.2.2⟩ : Mk.Call)) (fun _ _ _ h => h) (by kernel_rfl) rfl Go.Proofs.Try.underlying23 (OpnRow.cons rfl o3 (OpnRow.cons rfl o3 (OpnRow.cons rfl o3 (OpnRow.one rfl o3))))
theorem o25 : Opn Go.Proofs.Try.prog 25 Mk.Request := Opn.struct (β := Int × Int × Mk.Call) (fun y : Int × Int × Mk.Call => (⟨y.1, y.2.1, y.2.2⟩ : Mk.Request)) (fun _ _ _ h => h) (by kernel_rfl) rfl Go.Proofs.Try.underlying25 (OpnRow.cons rfl o3 (OpnRow.cons rfl o3 (OpnRow.one rfl o23)))
theorem o26 : Opn Go.Proofs.Try.prog 26 Int := Opn.int (by kernel_rfl) (by kernel_rfl)
theorem o28 : Opn Go.Proofs.Try.prog 28 Mk.Reply := Opn.struct (β := Int × Int) (fun y : Int × Int => (⟨y.1, y.2⟩ : Mk.Reply)) (fun _ _ _ h => h) (by kernel_rfl) rfl Go.Proofs.Try.underlying28 (OpnRow.cons rfl o26 (OpnRow.one rfl o3))
theorem o30 : Opn Go.Proofs.Try.prog 30 Mk.Answer := Opn.struct (β := Int × Int × Mk.Reply) (fun y : Int × Int × Mk.Reply => (⟨y.1, y.2.1, y.2.2⟩ : Mk.Answer)) (fun _ _ _ h => h) (by kernel_rfl) rfl Go.Proofs.Try.underlying30 (OpnRow.cons rfl o3 (OpnRow.cons rfl o3 (OpnRow.one rfl o28)))
theorem o5 : Opn Go.Proofs.Try.prog 5 UInt8 := Opn.u8 (by kernel_rfl) (by kernel_rfl)
theorem o31 : Opn Go.Proofs.Try.prog 31 (List UInt8) := Opn.slice o5 (by kernel_rfl) (by kernel_rfl)
theorem o43 : Opn Go.Proofs.Try.prog 43 (List Int) := Opn.slice o3 (by kernel_rfl) (by kernel_rfl)
theorem o50 : Opn Go.Proofs.Try.prog 50 Mk.Write := Opn.struct (β := Int × Int) (fun y : Int × Int => (⟨y.1, y.2⟩ : Mk.Write)) (fun _ _ _ h => h) (by kernel_rfl) rfl Go.Proofs.Try.underlying50 (OpnRow.cons rfl o3 (OpnRow.one rfl o3))
theorem o44 : Opn Go.Proofs.Try.prog 44 (List Mk.Write) := Opn.slice o50 (by kernel_rfl) (by kernel_rfl)
theorem o45 : Opn Go.Proofs.Try.prog 45 (List Mk.Answer) := Opn.slice o30 (by kernel_rfl) (by kernel_rfl)
theorem o46 : Opn Go.Proofs.Try.prog 46 (List Mk.Request) := Opn.slice o25 (by kernel_rfl) (by kernel_rfl)
theorem o48 : Opn Go.Proofs.Try.prog 48 Mk.Store := Opn.struct (β := (List Int) × (List Mk.Write) × (List Mk.Answer) × (List Mk.Request)) (fun y : (List Int) × (List Mk.Write) × (List Mk.Answer) × (List Mk.Request) => (⟨y.1, y.2.1, y.2.2.1, y.2.2.2⟩ : Mk.Store)) (fun _ _ _ h => h) (by kernel_rfl) rfl Go.Proofs.Try.underlying48 (OpnRow.cons rfl o43 (OpnRow.cons rfl o44 (OpnRow.cons rfl o45 (OpnRow.one rfl o46))))
theorem o75 : Opn Go.Proofs.Try.prog 75 (List Mk.Call) := Opn.slice o23 (by kernel_rfl) (by kernel_rfl)
theorem o63 : Opn Go.Proofs.Try.prog 63 (List (List Mk.Call)) := Opn.slice o75 (by kernel_rfl) (by kernel_rfl)
theorem o123 : Opn Go.Proofs.Try.prog 123 Mk.Step := Opn.struct (β := Int × Int) (fun y : Int × Int => (⟨y.1, y.2⟩ : Mk.Step)) (fun _ _ _ h => h) (by kernel_rfl) rfl Go.Proofs.Try.underlying123 (OpnRow.cons rfl o3 (OpnRow.one rfl o3))
theorem o64 : Opn Go.Proofs.Try.prog 64 (List Mk.Step) := Opn.slice o123 (by kernel_rfl) (by kernel_rfl)
theorem o4 : Opn Go.Proofs.Try.prog 4 Bool := Opn.bool (by kernel_rfl) (by kernel_rfl)
end Go.Gx
