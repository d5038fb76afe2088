/- A small logic of symbolic frames over the kit's 'Code.wp': values of Go types as Lean values, represented in memory that stays; variables and arrays of the call's own; frames as lists of what each slot holds. Nothing here is about one program. Conditions: none. -/
import Derived.WalkKit
import Derived.Orders
import Derived.Deep.MidRow
namespace Go.Gx
open Go.RowKit
set_option linter.unusedVariables false

/-- cells that stay as they are: block, offset -/
abbrev PH := Nat → Nat → Option Value
def PH.le (p q : PH) : Prop := ∀ b o v, p b o = some v → q b o = some v
def PH.on (p : PH) (w : World) : Prop := ∀ b o v, p b o = some v → w.cell? ⟨b, o, none⟩ = some v
theorem PH.le_refl (p : PH) : p.le p := fun _ _ _ h => h
theorem PH.le_trans {p q r : PH} (h : p.le q) (k : q.le r) : p.le r := fun b o v e => k b o v (h b o v e)

/-- a Go type as a Lean type: how many cells, and which cells are a value's -/
class GoTy (α : Type) where
  sz : Nat
  agg : Bool
  rep : PH → α → List Value → Prop
  len : ∀ {p x vs}, rep p x vs → vs.length = sz
  mono : ∀ {p q : PH} {x vs}, p.le q → rep p x vs → rep q x vs
  one : ∀ {p x vs}, rep p x vs → ∀ v ∈ vs, v.oneCell' = true
  single : agg = false → sz = 1
  pos : 0 < sz

/-- the value of cells -/
def mkVal (agg : Bool) (vs : List Value) : Value := if agg then .agg vs.toArray else vs.headD undef

theorem cells_mkVal {α : Type} [GoTy α] {p : PH} {x : α} {vs : List Value} (h : GoTy.rep p x vs) : (mkVal (GoTy.agg α) vs).cells = vs.toArray := by
  unfold mkVal
  split
  · rfl
  · rename_i ha
    have h1 := GoTy.single (α := α) (by simpa using ha)
    have h2 := GoTy.len h
    match vs, h2 with
    | [v], _ =>
      have := GoTy.one h v (by simp)
      cases v <;> simp_all [Value.cells, Value.oneCell']
    | [], h2 => simp at h2; omega
    | _ :: _ :: _, h2 => simp at h2; omega

def I64 (x : Int) : Prop := -9223372036854775808 ≤ x ∧ x ≤ 9223372036854775807

instance instInt : GoTy Int where
  sz := 1
  agg := false
  rep _ x vs := vs = [.int .i64 x] ∧ I64 x
  len h := by simp [h.1]
  mono _ h := h
  one h v hv := by simp [h.1] at hv; subst hv; rfl
  single _ := rfl
  pos := by decide

instance instBool : GoTy Bool where
  sz := 1
  agg := false
  rep _ x vs := vs = [.bool x]
  len h := by simp [h]
  mono _ h := h
  one h v hv := by simp [h] at hv; subst hv; rfl
  single _ := rfl
  pos := by decide

instance instU8 : GoTy UInt8 where
  sz := 1
  agg := false
  rep _ x vs := vs = [.int .u8 x.toNat]
  len h := by simp [h]
  mono _ h := h
  one h v hv := by simp [h] at hv; subst hv; rfl
  single _ := rfl
  pos := by decide

/-- an integer of another kind -/
structure GI (k : IntKind) where
  n : Int
instance instGI (k : IntKind) : GoTy (GI k) where
  sz := 1
  agg := false
  rep _ x vs := vs = [.int k x.n] ∧ k.min ≤ x.n ∧ x.n ≤ k.max
  len h := by simp [h.1]
  mono _ h := h
  one h v hv := by simp [h.1] at hv; subst hv; rfl
  single _ := rfl
  pos := by decide

instance instStr : GoTy ByteArray where
  sz := 1
  agg := false
  rep _ x vs := vs = [.string x] ∧ x.size ≤ 9223372036854775807
  len h := by simp [h.1]
  mono _ h := h
  one h v hv := by simp [h.1] at hv; subst hv; rfl
  single _ := rfl
  pos := by decide

instance instProd {α β : Type} [GoTy α] [GoTy β] : GoTy (α × β) where
  sz := GoTy.sz α + GoTy.sz β
  agg := true
  rep p x vs := ∃ u v, vs = u ++ v ∧ GoTy.rep p x.1 u ∧ GoTy.rep p x.2 v
  len h := by obtain ⟨u, v, rfl, h1, h2⟩ := h; simp [GoTy.len h1, GoTy.len h2]
  mono hp h := by obtain ⟨u, v, rfl, h1, h2⟩ := h; exact ⟨u, v, rfl, GoTy.mono hp h1, GoTy.mono hp h2⟩
  one h v hv := by
    obtain ⟨u, w, rfl, h1, h2⟩ := h
    rcases List.mem_append.1 hv with h | h
    · exact GoTy.one h1 v h
    · exact GoTy.one h2 v h
  single h := by cases h
  pos := by have := GoTy.pos (α := α); omega

/-- a struct by its fields' tuple -/
@[reducible] def GoTy.via {α β : Type} [GoTy β] (f : α → β) : GoTy α where
  sz := GoTy.sz β
  agg := GoTy.agg β
  rep p x vs := GoTy.rep p (f x) vs
  len h := GoTy.len h
  mono hp h := GoTy.mono hp h
  one h := GoTy.one h
  single h := GoTy.single h
  pos := GoTy.pos

/-- the cells of a list, one behind the other -/
def RepL {α : Type} [GoTy α] (p : PH) : List α → List Value → Prop
  | [], cs => cs = []
  | x :: l, cs => ∃ c r, cs = c ++ r ∧ GoTy.rep p x c ∧ RepL p l r

section
variable {α : Type} [GoTy α]
theorem RepL.len {p : PH} : ∀ {l : List α} {cs : List Value}, RepL p l cs → cs.length = l.length * GoTy.sz α
  | [], cs, h => by simp [RepL] at h; simp [h]
  | x :: l, cs, h => by
    obtain ⟨c, r, rfl, h1, h2⟩ := h
    rw [List.length_append, GoTy.len h1, h2.len, List.length_cons, Nat.add_mul]; omega
theorem RepL.mono {p q : PH} (hp : p.le q) : ∀ {l : List α} {cs : List Value}, RepL p l cs → RepL q l cs
  | [], cs, h => h
  | x :: l, cs, h => by
    obtain ⟨c, r, rfl, h1, h2⟩ := h
    exact ⟨c, r, rfl, GoTy.mono hp h1, h2.mono hp⟩
theorem RepL.one {p : PH} : ∀ {l : List α} {cs : List Value}, RepL p l cs → ∀ v ∈ cs, v.oneCell' = true
  | [], cs, h, v, hv => by simp [RepL] at h; simp [h] at hv
  | x :: l, cs, h, v, hv => by
    obtain ⟨c, r, rfl, h1, h2⟩ := h
    rcases List.mem_append.1 hv with h | h
    · exact GoTy.one h1 v h
    · exact h2.one v h
theorem RepL.append {p : PH} : ∀ {l m : List α} {cs ds : List Value}, RepL p l cs → RepL p m ds → RepL p (l ++ m) (cs ++ ds)
  | [], m, cs, ds, h, k => by simp [RepL] at h; simpa [h] using k
  | x :: l, m, cs, ds, h, k => by
    obtain ⟨c, r, rfl, h1, h2⟩ := h
    exact ⟨c, r ++ ds, by simp, h1, h2.append k⟩
theorem RepL.single {p : PH} {x : α} {c : List Value} (h : GoTy.rep p x c) : RepL p [x] c := ⟨c, [], by simp, h, rfl⟩
/-- parted at an element -/
theorem RepL.split {p : PH} : ∀ {l : List α} {cs : List Value}, RepL p l cs → ∀ i (hi : i < l.length),
    GoTy.rep p l[i] ((cs.drop (i * GoTy.sz α)).take (GoTy.sz α))
  | x :: l, cs, h, 0, hi => by
    obtain ⟨c, r, rfl, h1, h2⟩ := h
    have := GoTy.len h1
    simpa [← this] using h1
  | x :: l, cs, h, i + 1, hi => by
    obtain ⟨c, r, rfl, h1, h2⟩ := h
    have h3 := h2.split i (by simpa using hi)
    have h4 := GoTy.len h1
    have e : (i + 1) * GoTy.sz α = c.length + i * GoTy.sz α := by rw [h4, Nat.add_mul]; omega
    rw [e, ← List.drop_drop, List.drop_left]
    exact h3
theorem RepL.take {p : PH} : ∀ {l : List α} {cs : List Value}, RepL p l cs → ∀ k, RepL p (l.take k) (cs.take (k * GoTy.sz α))
  | [], cs, h, k => by simp [RepL] at h; simp [h, RepL]
  | x :: l, cs, h, 0 => by simp [RepL]
  | x :: l, cs, h, k + 1 => by
    obtain ⟨c, r, rfl, h1, h2⟩ := h
    have h4 := GoTy.len h1
    have e : (k + 1) * GoTy.sz α = c.length + k * GoTy.sz α := by rw [h4, Nat.add_mul]; omega
    rw [e, List.take_length_add_append]
    exact ⟨c, _, rfl, h1, h2.take k⟩
theorem RepL.drop {p : PH} : ∀ {l : List α} {cs : List Value}, RepL p l cs → ∀ k, RepL p (l.drop k) (cs.drop (k * GoTy.sz α))
  | [], cs, h, k => by simp [RepL] at h; simp [h, RepL]
  | x :: l, cs, h, 0 => by simpa using h
  | x :: l, cs, h, k + 1 => by
    obtain ⟨c, r, rfl, h1, h2⟩ := h
    have h4 := GoTy.len h1
    have e : (k + 1) * GoTy.sz α = c.length + k * GoTy.sz α := by rw [h4, Nat.add_mul]; omega
    have e2 : (c ++ r).drop (c.length + k * GoTy.sz α) = r.drop (k * GoTy.sz α) := by rw [← List.drop_drop, List.drop_left]
    rw [e, e2]
    exact h2.drop k
/-- one element turned -/
theorem RepL.set {p : PH} : ∀ {l : List α} {cs : List Value}, RepL p l cs → ∀ i (hi : i < l.length) {y : α} {us : List Value}, GoTy.rep p y us →
    RepL p (l.set i y) (cs.take (i * GoTy.sz α) ++ us ++ cs.drop (i * GoTy.sz α + GoTy.sz α))
  | x :: l, cs, h, 0, hi, y, us, hy => by
    obtain ⟨c, r, rfl, h1, h2⟩ := h
    have h4 := GoTy.len h1
    refine ⟨us, r, ?_, hy, h2⟩
    simp [← h4]
  | x :: l, cs, h, i + 1, hi, y, us, hy => by
    obtain ⟨c, r, rfl, h1, h2⟩ := h
    have h4 := GoTy.len h1
    have e : (i + 1) * GoTy.sz α = c.length + i * GoTy.sz α := by rw [h4, Nat.add_mul]; omega
    refine ⟨c, _, ?_, h1, h2.set i (by simpa using hi) hy⟩
    rw [e, List.take_length_add_append, Nat.add_assoc, ← List.drop_drop, List.drop_left]
    simp [List.append_assoc]
theorem RepL.inv_append {p : PH} : ∀ {l m : List α} {cs : List Value}, RepL p (l ++ m) cs → ∃ c d, cs = c ++ d ∧ RepL p l c ∧ RepL p m d
  | [], m, cs, h => ⟨[], cs, rfl, rfl, h⟩
  | x :: l, m, cs, h => by
    obtain ⟨c, r, rfl, h1, h2⟩ := h
    obtain ⟨c', d, rfl, h3, h4⟩ := h2.inv_append
    exact ⟨c ++ c', d, by simp, ⟨c, c', rfl, h1, h3⟩, h4⟩
end

/-- a slice that is only read -/
def RepS {α : Type} [GoTy α] (p : PH) (l : List α) (v : Value) : Prop :=
  ∃ a c cs, v = .slice a l.length c ∧ l.length ≤ c ∧ c ≤ 9223372036854775807 ∧ RepL p l cs ∧
    (a = none → c = 0) ∧ (cs = [] ∨ ∃ b o, a = some ⟨b, o, none⟩ ∧ ∀ j u, cs[j]? = some u → p b (o + j) = some u)

instance instList {α : Type} [GoTy α] : GoTy (List α) where
  sz := 1
  agg := false
  rep p l vs := ∃ v, vs = [v] ∧ RepS p l v
  len h := by obtain ⟨v, rfl, _⟩ := h; rfl
  mono hp h := by
    obtain ⟨v, rfl, a, c, cs, rfl, h1, h2, h3, h4, h5⟩ := h
    refine ⟨_, rfl, a, c, cs, rfl, h1, h2, h3.mono hp, h4, ?_⟩
    rcases h5 with h5 | ⟨b, o, rfl, h5⟩
    · exact .inl h5
    · exact .inr ⟨b, o, rfl, fun j u hu => hp _ _ _ (h5 j u hu)⟩
  one h v hv := by obtain ⟨u, rfl, a, c, cs, rfl, _⟩ := h; simp at hv; subst hv; rfl
  single _ := rfl
  pos := by decide

theorem RepS.mono {α : Type} [GoTy α] {p q : PH} (hp : p.le q) {l : List α} {v : Value} (h : RepS p l v) : RepS q l v := by
  obtain ⟨a, c, cs, rfl, h1, h2, h3, h4, h5⟩ := h
  refine ⟨a, c, cs, rfl, h1, h2, h3.mono hp, h4, ?_⟩
  rcases h5 with h5 | ⟨b, o, rfl, h5⟩
  · exact .inl h5
  · exact .inr ⟨b, o, rfl, fun j u hu => hp _ _ _ (h5 j u hu)⟩

theorem repS_nil {α : Type} [GoTy α] (p : PH) : RepS p ([] : List α) (.slice none 0 0) :=
  ⟨none, 0, [], rfl, Nat.le_refl _, by decide, rfl, fun _ => rfl, .inl rfl⟩

/-- a place inside a type -/
structure Lens (α β : Type) [GoTy α] [GoTy β] where
  off : Nat
  get : α → β
  set : α → β → α
  hget : ∀ {p x vs}, GoTy.rep p x vs → GoTy.rep p (get x) ((vs.drop off).take (GoTy.sz β))
  hset : ∀ {p x vs y us}, GoTy.rep p x vs → GoTy.rep p y us → GoTy.rep p (set x y) (vs.take off ++ us ++ vs.drop (off + GoTy.sz β))
  hle : off + GoTy.sz β ≤ GoTy.sz α

section
variable {α β γ : Type} [GoTy α] [GoTy β] [GoTy γ]
def Lens.id : Lens α α where
  off := 0
  get x := x
  set _ y := y
  hget h := by simpa [← GoTy.len h] using h
  hset {p x vs y us} h k := by simp [← GoTy.len h]; exact k
  hle := by simp
def Lens.fst : Lens (α × β) α where
  off := 0
  get x := x.1
  set x y := (y, x.2)
  hget h := by obtain ⟨u, v, rfl, h1, h2⟩ := h; simpa [← GoTy.len h1] using h1
  hset h k := by obtain ⟨u, v, rfl, h1, h2⟩ := h; exact ⟨_, v, by simp [← GoTy.len h1], k, h2⟩
  hle := by show 0 + GoTy.sz α ≤ GoTy.sz α + GoTy.sz β; omega
def Lens.snd : Lens (α × β) β where
  off := GoTy.sz α
  get x := x.2
  set x y := (x.1, y)
  hget h := by obtain ⟨u, v, rfl, h1, h2⟩ := h; simpa [← GoTy.len h1, ← GoTy.len h2] using h2
  hset h k := by
    obtain ⟨u, v, rfl, h1, h2⟩ := h
    refine ⟨u, _, ?_, h1, k⟩
    have e1 := GoTy.len h1
    have e2 := GoTy.len h2
    rw [← e1, ← e2, List.take_left, ← List.length_append, List.drop_length]
    simp
  hle := by show GoTy.sz α + GoTy.sz β ≤ GoTy.sz α + GoTy.sz β; omega

theorem take_drop_take {δ : Type} (l : List δ) (a b n m : Nat) (h : b + m ≤ n) : ((((l.drop a).take n).drop b).take m) = (l.drop (a + b)).take m := by
  apply List.ext_getElem?
  intro i
  simp only [List.getElem?_take, List.getElem?_drop]
  by_cases h1 : i < m
  · simp [h1, show b + i < n from by omega, Nat.add_assoc]
  · simp [h1]

theorem splice_splice {δ : Type} (l us : List δ) (a b n m : Nat) (h : b + m ≤ n) (hn : a + n ≤ l.length) (hu : us.length = m) :
    l.take a ++ (((l.drop a).take n).take b ++ us ++ ((l.drop a).take n).drop (b + m)) ++ l.drop (a + n) = l.take (a + b) ++ us ++ l.drop (a + b + m) := by
  have e1 : ((l.drop a).take n).take b = (l.drop a).take b := by rw [List.take_take]; congr 1; omega
  have e2 : l.take (a + b) = l.take a ++ (l.drop a).take b := by rw [List.take_add]
  have e3 : l.drop (a + b + m) = ((l.drop a).take n).drop (b + m) ++ l.drop (a + n) := by
    rw [List.drop_take, List.drop_drop]
    have e4 : l.drop (a + n) = (l.drop (a + (b + m))).drop (n - (b + m)) := by rw [List.drop_drop]; congr 1; omega
    rw [e4, List.take_append_drop]; congr 1; omega
  rw [e1, e2, e3]; simp [List.append_assoc]

def Lens.comp (l : Lens α β) (m : Lens β γ) : Lens α γ where
  off := l.off + m.off
  get x := m.get (l.get x)
  set x z := l.set x (m.set (l.get x) z)
  hget h := by
    have := m.hget (l.hget h)
    rwa [take_drop_take _ _ _ _ _ m.hle] at this
  hset {p x vs y us} h k := by
    have h1 := l.hset h (m.hset (l.hget h) k)
    rwa [splice_splice _ _ _ _ _ _ m.hle (by rw [GoTy.len h]; exact l.hle) (GoTy.len k), ] at h1
  hle := by have h1 := l.hle; have h2 := m.hle; omega
end

/-- a struct's own tuple, as a place -/
def Lens.via {α β : Type} [GoTy β] (f : α → β) (g : β → α) (fg : ∀ y, f (g y) = y) : @Lens α β (GoTy.via f) _ :=
  @Lens.mk α β (GoTy.via f) _ 0 f (fun _ y => g y)
    (fun {p x vs} h => by have h' : GoTy.rep p (f x) vs := h; simpa [← GoTy.len h'] using h')
    (fun {p x vs y us} h k => by
      have h' : GoTy.rep p (f x) vs := h
      have e := GoTy.len h'
      show GoTy.rep p (f (g y)) _
      rw [fg]
      simpa [← e] using k)
    (by show 0 + GoTy.sz β ≤ GoTy.sz β; omega)
end Go.Gx
