/- WORDS FOR SPECS: what may fail, ways that meet, ways of branches, in the Option type; and how such a spec is opened. Nothing here is about one program. -/
import Derived.Test.YtkmokkhcoombnaaMk0
namespace Sp
/-- where p holds, on; else nothing -/
def G {α : Type} (p : Prop) [Decidable p] (k : Option α) : Option α := if p then k else none
/-- under p, k; else anything -/
def Cn {α : Type} [Inhabited α] (p : Prop) [Decidable p] (k : Option α) : Option α := if p then k else some default
/-- ways that meet -/
def J {κ β : Type} (k : κ) (f : κ → Option β) : Option β := f k
/-- a number of 64 bits -/
abbrev I (x : Int) : Prop := -9223372036854775808 ≤ x ∧ x ≤ 9223372036854775807
/-- an element by its number -/
def ix {α : Type} [Inhabited α] (l : List α) (i : Int) : α := l.getD i.toNat default
/-- an element put -/
def up {α : Type} (l : List α) (i : Int) (y : α) : List α := l.set i.toNat y
/-- a part -/
abbrev sub {α : Type} (l : List α) (i j : Int) : List α := (l.drop i.toNat).take (j.toNat - i.toNat)

/-- numbers of 32 bits -/
structure U32 where
  n : Int
  deriving DecidableEq, Inhabited
structure I32 where
  n : Int
  deriving DecidableEq, Inhabited
def u8 (x : Int) : UInt8 := UInt8.ofNat (x % 256).toNat
def u32 (x : Int) : U32 := ⟨x % 4294967296⟩
def i32 (x : Int) : I32 := ⟨(x + 2147483648) % 4294967296 - 2147483648⟩
def orU (a b : U32) : U32 := ⟨((BitVec.ofInt 32 a.n ||| BitVec.ofInt 32 b.n).toNat : Int)⟩
def shlU (p : U32) (k : Nat) : U32 := u32 (p.n * 2 ^ k)
def shrI (p : Int) (k : Nat) : Int := p / 2 ^ k
/-- bytes as a text, and back -/
def bts (l : List UInt8) : ByteArray := ⟨l.toArray⟩
def stb (s : ByteArray) : List UInt8 := s.data.toList

theorem G_some {α : Type} {p : Prop} [Decidable p] {k : Option α} {r : α} (h : G p k = some r) : p ∧ k = some r := by
  unfold G at h
  by_cases hp : p
  · rw [if_pos hp] at h; exact ⟨hp, h⟩
  · rw [if_neg hp] at h; cases h
theorem B_some {α β : Type} {x : Option α} {f : α → Option β} {r : β} (h : x.bind f = some r) : ∃ v, x = some v ∧ f v = some r := by
  cases x with
  | none => cases h
  | some v => exact ⟨v, rfl, h⟩
theorem Cn_on {α : Type} [Inhabited α] {p : Prop} [Decidable p] {k : Option α} {r : α} (h : Cn p k = some r) (hp : p) : k = some r := by
  unfold Cn at h
  rwa [if_pos hp] at h
theorem J_some {κ β : Type} {k0 : κ} {f : κ → Option β} {r : β} (h : J k0 f = some r) : ∃ k, k = k0 ∧ f k = some r := ⟨k0, rfl, h⟩
theorem if_then {α : Type} {b : Bool} {x y : Option α} {r : α} (h : (bif b then x else y) = some r) (hb : b = true) : x = some r := by
  subst hb; exact h
theorem if_else {α : Type} {b : Bool} {x y : Option α} {r : α} (h : (bif b then x else y) = some r) (hb : b = false) : y = some r := by
  subst hb; exact h
theorem none_no {α : Type} {r : α} (h : (none : Option α) = some r) : False := by cases h
end Sp
