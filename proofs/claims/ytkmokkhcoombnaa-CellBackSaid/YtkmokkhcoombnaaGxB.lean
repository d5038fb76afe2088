/- The small logic, eleventh part: forms for specs that a program prints. Nothing here is about one program. -/
import Derived.Test.YtkmokkhcoombnaaGxA
namespace Go.Gx
open Go.RowKit Sp
set_option linter.unusedVariables false
set_option linter.unusedSimpArgs false
section
variable {P : Program}
theorem ox_load_ax {T : TypeId} {s id : Nat} {i : Int} {e : TypeId} {α β : Type} [GoTy α] [GoTy β] [Inhabited α] {l : Lens α β} {xs : List α} {dst ty pos af g} (h : Ty P T β) (hi : 0 ≤ i ∧ i < xs.length) :
    OpX P ⟨dst, .load T (.tmp s), ty, pos, af, g⟩ [(s, .aptr id i.toNat l)] [(id, .arr e xs)] (.val (l.get (ix xs i))) [] [] :=
  ox_load_aptr h (by
    have : i.toNat < xs.length := by omega
    simp [ix, this])
theorem ox_store_ax {T : TypeId} {s id : Nat} {i : Int} {e : TypeId} {x : Operand} {lx : List (Nat × Desc)} {α β : Type} [GoTy α] [GoTy β] [Inhabited α] {l : Lens α β} {xs : List α} {y : β} {ty pos af g} (h : Ty P T β)
    (hx : OpdOk x (.val y) lx) (hi : 0 ≤ i ∧ i < xs.length) :
    OpX P ⟨none, .store T (.tmp s) x, ty, pos, af, g⟩ ((s, .aptr id i.toNat l) :: lx) [(id, .arr e xs)] .any [(id, .arr e (up xs i (l.set (ix xs i) y)))] [] :=
  ox_store_aptr h hx (by
    have : i.toNat < xs.length := by omega
    simp [ix, this])
/-- a struct type all of whose fields are known -/
def bldB (P : Program) (T : TypeId) : Bool := match P.underlying T with
  | some (.struct fs) => fs.all fun f => (P.info? f.type).isSome
  | _ => false
theorem ox_buildB {T : TypeId} {α : Type} [GoTy α] {z0 z : α} {ps : List (Nat × Operand)} {l : List (Nat × Desc)} {dst ty pos af g} (hz : TyZ P T z0) (hu : bldB P T = true) (hagg : GoTy.agg α = true)
    (h : Bld P T z0 ps z l) : OpX P ⟨dst, .build T ps.toArray, ty, pos, af, g⟩ l [] (.val z) [] [] := by
  unfold bldB at hu
  split at hu
  · rename_i fs e
    exact ox_build hz e hu hagg h
  · cases hu
end
end Go.Gx
