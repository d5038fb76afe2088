/- WHAT IS READ OF AN ARGUMENT STANDS FOR A VALUE: for the types of this seat. Printed by gen_types.py. -/
import Derived.Test.YtpicjflhhgildaaGt
import Derived.Test.YtpicjflhhgildaaGxO
namespace Go.Gx
set_option linter.unusedVariables false
theorem o3 : Opn Go.Proofs.Try.prog 3 Int := Opn.int (by kernel_rfl) (by kernel_rfl)
theorem o4 : Opn Go.Proofs.Try.prog 4 Bool := Opn.bool (by kernel_rfl) (by kernel_rfl)
theorem o22 : Opn Go.Proofs.Try.prog 22 (List Int) := Opn.slice o3 (by kernel_rfl) (by kernel_rfl)
theorem o24 : Opn Go.Proofs.Try.prog 24 Mk.Call := Opn.struct (β := Int × Int × Int × Int) (fun y : Int × Int × Int × Int => (⟨y.1, y.2.1, y.2.2.1, y.2.2.2⟩ : Mk.Call)) (fun _ _ _ h => h) (by kernel_rfl) rfl Go.Proofs.Try.underlying24 (OpnRow.cons rfl o3 (OpnRow.cons rfl o3 (OpnRow.cons rfl o3 (OpnRow.one rfl o3))))
theorem o60 : Opn Go.Proofs.Try.prog 60 Mk.Write := Opn.struct (β := Int × Int) (fun y : Int × Int => (⟨y.1, y.2⟩ : Mk.Write)) (fun _ _ _ h => h) (by kernel_rfl) rfl Go.Proofs.Try.underlying60 (OpnRow.cons rfl o3 (OpnRow.one rfl o3))
theorem o28 : Opn Go.Proofs.Try.prog 28 (List Mk.Write) := Opn.slice o60 (by kernel_rfl) (by kernel_rfl)
theorem o25 : Opn Go.Proofs.Try.prog 25 Int := Opn.int (by kernel_rfl) (by kernel_rfl)
theorem o30 : Opn Go.Proofs.Try.prog 30 Mk.Reply := Opn.struct (β := Int × Int) (fun y : Int × Int => (⟨y.1, y.2⟩ : Mk.Reply)) (fun _ _ _ h => h) (by kernel_rfl) rfl Go.Proofs.Try.underlying30 (OpnRow.cons rfl o25 (OpnRow.one rfl o3))
theorem o41 : Opn Go.Proofs.Try.prog 41 Mk.Request := Opn.struct (β := Int × Int × Mk.Call) (fun y : Int × Int × Mk.Call => (⟨y.1, y.2.1, y.2.2⟩ : Mk.Request)) (fun _ _ _ h => h) (by kernel_rfl) rfl Go.Proofs.Try.underlying41 (OpnRow.cons rfl o3 (OpnRow.cons rfl o3 (OpnRow.one rfl o24)))
theorem o43 : Opn Go.Proofs.Try.prog 43 Mk.Answer := Opn.struct (β := Int × Int × Mk.Reply) (fun y : Int × Int × Mk.Reply => (⟨y.1, y.2.1, y.2.2⟩ : Mk.Answer)) (fun _ _ _ h => h) (by kernel_rfl) rfl Go.Proofs.Try.underlying43 (OpnRow.cons rfl o3 (OpnRow.cons rfl o3 (OpnRow.one rfl o30)))
theorem o5 : Opn Go.Proofs.Try.prog 5 UInt8 := Opn.u8 (by kernel_rfl) (by kernel_rfl)
theorem o44 : Opn Go.Proofs.Try.prog 44 (List UInt8) := Opn.slice o5 (by kernel_rfl) (by kernel_rfl)
theorem o56 : Opn Go.Proofs.Try.prog 56 (List Mk.Request) := Opn.slice o41 (by kernel_rfl) (by kernel_rfl)
theorem o85 : Opn Go.Proofs.Try.prog 85 (List Mk.Call) := Opn.slice o24 (by kernel_rfl) (by kernel_rfl)
theorem o73 : Opn Go.Proofs.Try.prog 73 (List (List Mk.Call)) := Opn.slice o85 (by kernel_rfl) (by kernel_rfl)
theorem o128 : Opn Go.Proofs.Try.prog 128 Mk.Step := Opn.struct (β := Int × Int) (fun y : Int × Int => (⟨y.1, y.2⟩ : Mk.Step)) (fun _ _ _ h => h) (by kernel_rfl) rfl Go.Proofs.Try.underlying128 (OpnRow.cons rfl o3 (OpnRow.one rfl o3))
theorem o74 : Opn Go.Proofs.Try.prog 74 (List Mk.Step) := Opn.slice o128 (by kernel_rfl) (by kernel_rfl)
theorem o55 : Opn Go.Proofs.Try.prog 55 (List Mk.Answer) := Opn.slice o43 (by kernel_rfl) (by kernel_rfl)
theorem o58 : Opn Go.Proofs.Try.prog 58 Mk.Store := Opn.struct (β := (List Int) × (List Mk.Write) × (List Mk.Answer) × (List Mk.Request)) (fun y : (List Int) × (List Mk.Write) × (List Mk.Answer) × (List Mk.Request) => (⟨y.1, y.2.1, y.2.2.1, y.2.2.2⟩ : Mk.Store)) (fun _ _ _ h => h) (by kernel_rfl) rfl Go.Proofs.Try.underlying58 (OpnRow.cons rfl o22 (OpnRow.cons rfl o28 (OpnRow.cons rfl o55 (OpnRow.one rfl o56))))
end Go.Gx
