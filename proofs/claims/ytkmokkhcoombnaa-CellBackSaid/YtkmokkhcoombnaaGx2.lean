/- The small logic, second part: what slots hold, what a call's own memory holds, states, steps of a region, and the rules of code. Nothing here is about one program. -/
import Derived.Test.YtkmokkhcoombnaaGx1
namespace Go.Gx
open Go.RowKit
set_option linter.unusedVariables false

/-- the hidden side of a state: cells that stay; which blocks are the call's own, and whose; an object's block, and the value handed around for it -/
structure M where
  ph : PH
  own : Nat → Option Nat
  blk : Nat → Nat
  sv : Nat → Value

/-- cells of which some are slices of the call's own -/
def one1 (v : Value) : Value := if v.oneCell' = true then v else .bool false
theorem one1_one (v : Value) : (one1 v).oneCell' = true := by
  unfold one1; split
  · assumption
  · rfl
def fill (m : M) (hs : List (Nat × Nat)) (cs : List Value) : List Value := hs.foldl (fun cs p => cs.set p.1 (one1 (m.sv p.2))) cs
theorem fill_length (m : M) : ∀ (hs : List (Nat × Nat)) (cs : List Value), (fill m hs cs).length = cs.length
  | [], cs => rfl
  | p :: hs, cs => by
    show (fill m hs (cs.set p.1 (one1 (m.sv p.2)))).length = _
    rw [fill_length m hs]; simp

/-- what a slot holds -/
inductive Desc : Type 1
  | val {α : Type} [GoTy α] (x : α)
  | nilS
  | ptr (id : Nat) {α β : Type} [GoTy α] [GoTy β] (l : Lens α β)
  | elem {α : Type} [GoTy α] (x : α)
  | sl (id : Nat)
  | aptr (id i : Nat) {α β : Type} [GoTy α] [GoTy β] (l : Lens α β)
  | any
  | cond (p : Prop) (d : Desc)
  | tup (ds : List Desc)
  | clo (f : FuncId) (caps : List Desc)
  | raw (v : Value)
  | hole {α : Type} [GoTy α] (x : α) (hs : List (Nat × Nat))
  | boolOf (p : Bool → Prop)
  | nlist {α : Type} [GoTy α] (l : List α)
  | mp (id : Nat)

mutual
def Desc.holds (m : M) : Desc → Value → Prop
  | @Desc.val α _ x, v => ∃ vs, GoTy.rep m.ph x vs ∧ v = mkVal (GoTy.agg α) vs
  | .nilS, v => v = .slice none 0 0
  | @Desc.ptr id _ _ _ _ l, v => v = .pointer (some ⟨m.blk id, l.off, none⟩)
  | @Desc.elem _ _ x, v => ∃ b o vs, v = .pointer (some ⟨b, o, none⟩) ∧ GoTy.rep m.ph x vs ∧ ∀ j u, vs[j]? = some u → m.ph b (o + j) = some u
  | .sl id, v => v = m.sv id
  | @Desc.aptr id i α _ _ _ l, v => v = .pointer (some ⟨m.blk id, i * GoTy.sz α + l.off, none⟩)
  | .any, _ => True
  | .cond p d, v => (p → d.holds m v) ∧ (¬ p → v = undef)
  | .tup ds, v => ∃ vs : List Value, v = .tuple vs.toArray ∧ Desc.holdsL m ds vs
  | .clo f caps, v => ∃ vs : List Value, v = .func (.func f) #[] vs.toArray ∧ Desc.holdsL m caps vs
  | .raw u, v => v = u
  | @Desc.hole α _ x hs, v => ∃ vs, GoTy.rep m.ph x vs ∧ v = mkVal (GoTy.agg α) (fill m hs vs)
  | .boolOf p, v => ∃ b, p b ∧ v = .bool b
  | @Desc.nlist _ _ l, v => RepS m.ph l v ∧ (l = [] → v = .slice none 0 0)
  | .mp id, v => v = .map (some (m.blk id))
def Desc.holdsL (m : M) : List Desc → List Value → Prop
  | [], vs => vs = []
  | d :: ds, vs => ∃ v r, vs = v :: r ∧ d.holds m v ∧ Desc.holdsL m ds r
end

mutual
/-- does it speak of one of these objects? -/
def Desc.ment (ids : List Nat) : Desc → Bool
  | @Desc.ptr id _ _ _ _ _ => ids.contains id
  | .sl id => ids.contains id
  | @Desc.aptr id _ _ _ _ _ _ => ids.contains id
  | .cond _ d => d.ment ids
  | .tup ds => Desc.mentL ids ds
  | .clo _ caps => Desc.mentL ids caps
  | @Desc.val _ _ _ => false
  | .nilS => false
  | @Desc.elem _ _ _ => false
  | .any => false
  | .raw _ => false
  | @Desc.hole _ _ _ hs => hs.any fun p => ids.contains p.2
  | .boolOf _ => false
  | @Desc.nlist _ _ _ => false
  | .mp id => ids.contains id
def Desc.mentL (ids : List Nat) : List Desc → Bool
  | [] => false
  | d :: ds => d.ment ids || Desc.mentL ids ds
end

mutual
theorem Desc.ment_nil : ∀ d : Desc, d.ment [] = false
  | @Desc.ptr id _ _ _ _ _ => rfl
  | .sl id => rfl
  | @Desc.aptr id _ _ _ _ _ _ => rfl
  | .cond _ d => by simpa [Desc.ment] using Desc.ment_nil d
  | .tup ds => by simpa [Desc.ment] using Desc.mentL_nil ds
  | .clo _ ds => by simpa [Desc.ment] using Desc.mentL_nil ds
  | @Desc.val _ _ _ => rfl
  | .nilS => rfl
  | @Desc.elem _ _ _ => rfl
  | .any => rfl
  | .raw _ => rfl
  | @Desc.hole _ _ _ hs => by simp [Desc.ment]
  | .boolOf _ => rfl
  | @Desc.nlist _ _ _ => rfl
  | .mp _ => rfl
theorem Desc.mentL_nil : ∀ ds : List Desc, Desc.mentL [] ds = false
  | [] => rfl
  | d :: ds => by simp [Desc.mentL, Desc.ment_nil d, Desc.mentL_nil ds]
end

/-- the hidden sides agree but for the objects 'ids' -/
structure Keeps (ids : List Nat) (m m' : M) : Prop where
  ph : m.ph.le m'.ph
  blk : ∀ id, ids.contains id = false → m'.blk id = m.blk id
  sv : ∀ id, ids.contains id = false → m'.sv id = m.sv id

theorem fill_keep {ids : List Nat} {m m' : M} (k : Keeps ids m m') : ∀ (hs : List (Nat × Nat)) (cs : List Value), (hs.any fun p => ids.contains p.2) = false → fill m' hs cs = fill m hs cs
  | [], cs, _ => rfl
  | p :: hs, cs, h => by
    simp only [List.any_cons, Bool.or_eq_false_iff] at h
    show fill m' hs (cs.set p.1 (one1 (m'.sv p.2))) = fill m hs (cs.set p.1 (one1 (m.sv p.2)))
    rw [k.sv _ h.1, fill_keep k hs _ h.2]

mutual
theorem Desc.holds_keep {ids : List Nat} {m m' : M} (k : Keeps ids m m') : ∀ (d : Desc) (v : Value), d.ment ids = false → d.holds m v → d.holds m' v
  | @Desc.val _ _ x, v, _, ⟨vs, h1, h2⟩ => ⟨vs, GoTy.mono k.ph h1, h2⟩
  | .nilS, v, _, h => h
  | @Desc.ptr id _ _ _ _ l, v, hm, h => by simp only [Desc.holds, Desc.ment] at *; rw [k.blk id hm]; exact h
  | @Desc.elem _ _ x, v, _, ⟨b, o, vs, h1, h2, h3⟩ => ⟨b, o, vs, h1, GoTy.mono k.ph h2, fun j u hu => k.ph _ _ _ (h3 j u hu)⟩
  | .sl id, v, hm, h => by simp only [Desc.holds, Desc.ment] at *; rw [k.sv id hm]; exact h
  | @Desc.aptr id i _ _ _ _ l, v, hm, h => by simp only [Desc.holds, Desc.ment] at *; rw [k.blk id hm]; exact h
  | .any, v, _, _ => trivial
  | .cond p d, v, hm, h => ⟨fun hp => Desc.holds_keep k d v (by simpa [Desc.ment] using hm) (h.1 hp), h.2⟩
  | .tup ds, v, hm, ⟨vs, h1, h2⟩ => ⟨vs, h1, Desc.holdsL_keep k ds vs (by simpa [Desc.ment] using hm) h2⟩
  | .clo f ds, v, hm, ⟨vs, h1, h2⟩ => ⟨vs, h1, Desc.holdsL_keep k ds vs (by simpa [Desc.ment] using hm) h2⟩
  | .raw u, v, _, h => h
  | @Desc.hole _ _ x hs, v, hm, ⟨vs, h1, h2⟩ => ⟨vs, GoTy.mono k.ph h1, by rw [fill_keep k hs vs (by simpa [Desc.ment] using hm)]; exact h2⟩
  | .boolOf _, v, _, h => h
  | @Desc.nlist _ _ l, v, _, ⟨h1, h2⟩ => ⟨h1.mono k.ph, h2⟩
  | .mp id, v, hm, h => by simp only [Desc.holds, Desc.ment] at *; rw [k.blk id hm]; exact h
theorem Desc.holdsL_keep {ids : List Nat} {m m' : M} (k : Keeps ids m m') : ∀ (ds : List Desc) (vs : List Value), Desc.mentL ids ds = false → Desc.holdsL m ds vs → Desc.holdsL m' ds vs
  | [], vs, _, h => h
  | d :: ds, vs, hm, ⟨v, r, h1, h2, h3⟩ => by
    simp only [Desc.mentL, Bool.or_eq_false_iff] at hm
    exact ⟨v, r, h1, Desc.holds_keep k d v hm.1 h2, Desc.holdsL_keep k ds r hm.2 h3⟩
end

/-- what an object of the call's own holds: a variable (with arrays of the call's own at some of its cells), an array -/
inductive ODesc : Type 1
  | var {α : Type} [GoTy α] (x : α) (hs : List (Nat × Nat))
  | arr {α : Type} [GoTy α] (e : TypeId) (l : List α)
  | dead
  | pin (j b : Nat) (v : Value)
  | imap (kv : List (Int × Value))

/-- a slice in a block of its own -/
def OwnRow (w : World) (g e size : Nat) (v : Value) (n : Nat) (cs : List Value) : Prop :=
  ∃ cap cur, v = .slice (some ⟨g, 0, none⟩) n cap ∧ w.heap[g]? = some (.cells cur e (0, 0)) ∧ n ≤ cap ∧ cap ≤ maxLen ∧ cur.size = cap * size ∧ cur.toList.take (n * size) = cs

def ODesc.holds (m : M) (B : Nat) (w : World) (id : Nat) : ODesc → Prop
  | @ODesc.var _ _ x hs => ∃ cs T, w.heap[m.blk id]? = some (.cells (fill m hs cs).toArray T (0, 0)) ∧ GoTy.rep m.ph x cs ∧ m.own (m.blk id) = some id
  | @ODesc.arr α _ e l => ∃ cs, RepL m.ph l cs ∧ ((l = [] ∧ ∃ a, m.sv id = .slice a 0 0) ∨ (OwnRow w (m.blk id) e (GoTy.sz α) (m.sv id) l.length cs ∧ m.own (m.blk id) = some id))
  | .dead => True
  | .pin j b v => m.blk j = b ∧ m.sv j = v
  | .imap kv => ∃ es clock, w.heap[m.blk id]? = some (.map es clock) ∧ es.toList.map (fun e => (e.key, e.val)) = kv.map (fun p => (.int .i64 p.1, p.2)) ∧ m.own (m.blk id) = some id

def ODesc.ment (ids : List Nat) : ODesc → Bool
  | @ODesc.var _ _ _ hs => hs.any fun p => ids.contains p.2
  | @ODesc.arr _ _ _ _ => false
  | .dead => false
  | .pin j _ _ => ids.contains j
  | .imap _ => false

theorem OwnRow.congr {w w' : World} {g e size : Nat} {v : Value} {n : Nat} {xs : List Value} (h : OwnRow w g e size v n xs) (hb : w'.heap[g]? = w.heap[g]?) : OwnRow w' g e size v n xs := by
  obtain ⟨cap, cur, h1, h2, h3⟩ := h
  exact ⟨cap, cur, h1, by rw [hb]; exact h2, h3⟩

/-- an object that is not turned -/
theorem ODesc.holds_keep {ids : List Nat} {m m' : M} {B : Nat} {w w' : World} {id : Nat} (k : Keeps ids m m') (hid : ids.contains id = false)
    (hheap : ∀ b, m.own b = some id → w'.heap[b]? = w.heap[b]? ∧ m'.own b = some id) (d : ODesc) (hm : d.ment ids = false) (h : d.holds m B w id) : d.holds m' B w' id := by
  cases d with
  | var x hs =>
    obtain ⟨cs, T, h1, h2, h3⟩ := h
    obtain ⟨e1, e2⟩ := hheap _ h3
    refine ⟨cs, T, ?_, GoTy.mono k.ph h2, ?_⟩
    · rw [k.blk _ hid, fill_keep k hs cs (by simpa [ODesc.ment] using hm), e1]; exact h1
    · rw [k.blk _ hid]; exact e2
  | arr e l =>
    obtain ⟨cs, h1, h2⟩ := h
    refine ⟨cs, h1.mono k.ph, ?_⟩
    rw [k.sv _ hid, k.blk _ hid]
    rcases h2 with h2 | ⟨h2, h3⟩
    · exact .inl h2
    · exact .inr ⟨h2.congr (hheap _ h3).1, (hheap _ h3).2⟩
  | dead => trivial
  | pin j b v =>
    have hj : ids.contains j = false := by simpa [ODesc.ment] using hm
    exact ⟨by rw [k.blk _ hj]; exact h.1, by rw [k.sv _ hj]; exact h.2⟩
  | imap kv =>
    obtain ⟨es, clock, h1, h2, h3⟩ := h
    obtain ⟨e1, e2⟩ := hheap _ h3
    exact ⟨es, clock, by rw [k.blk _ hid, e1]; exact h1, h2, by rw [k.blk _ hid]; exact e2⟩

/-- where a call began: its world, the cells that it may lean on, and the blocks that were handed to it -/
structure B0 extends World where
  ph0 : PH
  brw : Nat → Bool := fun _ => false

/-- below block B, beside the blocks that were handed to the call, the world is as it was -/
structure BelowX (brw : Nat → Bool) (B : Nat) (w w' : World) : Prop where
  os : w'.os = w.os
  tape : w'.tape = w.tape
  output : w'.output = w.output
  size : w.heap.size ≤ w'.heap.size
  block : ∀ k, k < B → brw k = false → w'.heap[k]? = w.heap[k]?
theorem BelowX.refl (brw : Nat → Bool) (B : Nat) (w : World) : BelowX brw B w w := ⟨rfl, rfl, rfl, Nat.le_refl _, fun _ _ _ => rfl⟩
theorem BelowX.trans {brw : Nat → Bool} {B : Nat} {a b c : World} (h : BelowX brw B a b) (k : BelowX brw B b c) : BelowX brw B a c :=
  ⟨k.os.trans h.os, k.tape.trans h.tape, k.output.trans h.output, Nat.le_trans h.size k.size, fun i hi hb => (k.block i hi hb).trans (h.block i hi hb)⟩
theorem BelowX.of {brw : Nat → Bool} {B : Nat} {w w' : World} (h : Below B w w') : BelowX brw B w w' := ⟨h.os, h.tape, h.output, h.size, fun k hk _ => h.block k hk⟩
theorem BelowX.drew {brw : Nat → Bool} {B : Nat} {a w : World} (h : BelowX brw B a w) : BelowX brw B a w.drew := ⟨h.os, h.tape, h.output, h.size, h.block⟩
theorem BelowX.plain {B : Nat} {w w' : World} (h : BelowX (fun _ => false) B w w') : Below B w w' := ⟨h.os, h.tape, h.output, h.size, fun k hk => h.block k hk rfl⟩

/-- the world beside the hidden side -/
structure WOK (w0 : B0) (m : M) (w : World) : Prop where
  below : BelowX w0.brw w0.heap.size w0.toWorld w
  old : ∀ b o v, b < w0.heap.size → w0.brw b = false → m.ph b o = some v → w0.ph0 b o = some v
  on : m.ph.on w
  own : ∀ b id, m.own b = some id → (w0.heap.size ≤ b ∨ w0.brw b = true) ∧ b < w.heap.size
  apart : ∀ b id, m.own b = some id → ∀ o, m.ph b o = none

@[reducible] def look {δ : Type 1} : List (Nat × δ) → Nat → Option δ
  | [], _ => none
  | p :: r, n => bif Nat.beq p.1 n then some p.2 else look r n

theorem look_append {δ : Type 1} (l r : List (Nat × δ)) (n : Nat) : look (l ++ r) n = (look l n).or (look r n) := by
  induction l with
  | nil => simp [look]
  | cons p l ih =>
    simp only [List.cons_append, look]
    cases Nat.beq p.1 n <;> simp [ih]
theorem look_none {δ : Type 1} {l : List (Nat × δ)} {n : Nat} (h : look l n = none) : ∀ p ∈ l, p.1 ≠ n := by
  induction l with
  | nil => simp
  | cons p l ih =>
    intro q hq
    simp only [look] at h
    cases hb : Nat.beq p.1 n with
    | true => rw [hb] at h; cases h
    | false =>
      rw [hb] at h
      rcases List.mem_cons.1 hq with e | e
      · subst e; intro e; subst e; simp at hb
      · exact ih h q e
theorem look_mem {δ : Type 1} {l : List (Nat × δ)} {n : Nat} {d : δ} (h : look l n = some d) : (n, d) ∈ l := by
  induction l with
  | nil => cases h
  | cons p l ih =>
    simp only [look] at h
    cases hb : Nat.beq p.1 n with
    | true =>
      rw [hb] at h
      have : p.1 = n := Nat.eq_of_beq_eq_true hb
      simp only [cond_true, Option.some.injEq] at h
      subst h; subst this; simp
    | false => rw [hb] at h; exact List.mem_cons_of_mem _ (ih h)

/-- a state: what slots hold, what objects hold -/
structure St where
  s : List (Nat × Desc)
  o : List (Nat × ODesc)

def Holds (w0 : B0) (n : Nat) (σ : St) (a : Act) (w : World) : Prop :=
  ∃ m, WOK w0 m w ∧ a.defers = [] ∧ a.tmps.size = n ∧ (∀ t d, look σ.s t = some d → d.holds m (a.tmps.getD t undef)) ∧ ∀ id d, look σ.o id = some d → d.holds m w0.heap.size w id

/-- a state holds by what it answers alone -/
theorem Holds.congr {w0 : B0} {n : Nat} {σ σ' : St} {a : Act} {w : World} (h : Holds w0 n σ a w) (hs : ∀ t d, look σ'.s t = some d → look σ.s t = some d) (ho : ∀ t d, look σ'.o t = some d → look σ.o t = some d) :
    Holds w0 n σ' a w := by
  obtain ⟨m, h1, h2, h3, h4, h5⟩ := h
  exact ⟨m, h1, h2, h3, fun t d e => h4 t d (hs t d e), fun t d e => h5 t d (ho t d e)⟩

/-- what a step reads -/
structure Rd where
  s : List (Nat × Desc)
  o : List (Nat × ODesc)
/-- what a step leaves, and which objects are other ones behind it -/
structure Wr where
  s : List (Nat × Desc)
  o : List (Nat × ODesc)
  fr : List Nat

@[reducible] def OkL {δ : Type 1} (σ : List (Nat × δ)) : List (Nat × δ) → Prop
  | [] => True
  | p :: r => look σ p.1 = some p.2 ∧ OkL σ r
theorem OkL.mem {δ : Type 1} {σ : List (Nat × δ)} : ∀ {l : List (Nat × δ)}, OkL σ l → ∀ p ∈ l, look σ p.1 = some p.2
  | [], _, p, h => by cases h
  | q :: l, ⟨h1, h2⟩, p, h => by
    rcases List.mem_cons.1 h with e | e
    · subst e; exact h1
    · exact OkL.mem h2 p e
theorem OkL.of_mem {δ : Type 1} {σ : List (Nat × δ)} : ∀ {l : List (Nat × δ)}, (∀ p ∈ l, look σ p.1 = some p.2) → OkL σ l
  | [], _ => trivial
  | q :: l, h => ⟨h q (by simp), OkL.of_mem fun p hp => h p (by simp [hp])⟩

structure Rd.ok (r : Rd) (σ : St) : Prop where
  s : OkL σ.s r.s
  o : OkL σ.o r.o

def keys {δ : Type 1} (l : List (Nat × δ)) : List Nat := l.map (·.1)

def freshS (ks fr : List Nat) (l : List (Nat × Desc)) : Bool := l.all fun p => ks.contains p.1 || !p.2.ment fr
def freshO (ks fr : List Nat) (l : List (Nat × ODesc)) : Bool := l.all fun p => ks.contains p.1 || !p.2.ment fr

/-- the same of what counts alone: an entry that lies behind another of its number does not -/
def freshSl (ks fr : List Nat) (l : List (Nat × Desc)) : Bool := l.all fun p => ks.contains p.1 || !((look l p.1).getD p.2).ment fr
def freshOl (ks fr : List Nat) (l : List (Nat × ODesc)) : Bool := l.all fun p => ks.contains p.1 || !((look l p.1).getD p.2).ment fr
theorem freshS_l {ks fr : List Nat} {l : List (Nat × Desc)} (h : freshS ks fr l = true) : freshSl ks fr l = true := List.all_eq_true.2 fun p hp => by
  cases e : look l p.1 with
  | none => simpa using List.all_eq_true.1 h p hp
  | some d => simpa using List.all_eq_true.1 h _ (look_mem e)
theorem freshO_l {ks fr : List Nat} {l : List (Nat × ODesc)} (h : freshO ks fr l = true) : freshOl ks fr l = true := List.all_eq_true.2 fun p hp => by
  cases e : look l p.1 with
  | none => simpa using List.all_eq_true.1 h p hp
  | some d => simpa using List.all_eq_true.1 h _ (look_mem e)

def fresh (σ : St) (w : Wr) : Bool :=
  match w.fr with
  | [] => true
  | fr => freshSl (keys w.s) fr σ.s && freshOl (keys w.o) fr σ.o && fr.all (keys w.o).contains

@[reducible] def St.upd (σ : St) (w : Wr) : St := ⟨w.s ++ σ.s, w.o ++ σ.o⟩

/-- one operation of a region -/
def opRun (P : Program) (ops : Array Oper) (Q : Exit → Act → World → Prop) (o : Oper) (K : Act → World → Prop) (a : Act) (w : World) : Prop :=
  if Region.wanted o (yielded ops a.tmps) then o.wp P a w K Q ∨ (o.asks P a w ∧ LetsOut Q) else K (a.put o.dst undef) w
/-- a step of a region, by what it reads and what it leaves, wherever it is taken -/
def Step (P : Program) (ops : Array Oper) (o : Oper) (r : Rd) (wr : Wr) : Prop :=
  ∀ (w0 : B0) (n : Nat) (σ : St) (a : Act) (w : World) (K : Act → World → Prop) (Q : Exit → Act → World → Prop),
    r.ok σ → fresh σ wr = true → (wr.s.all fun p => decide (p.1 < n)) = true → Holds w0 n σ a w → (∀ a' w', Holds w0 n (σ.upd wr) a' w' → K a' w') → opRun P ops Q o K a w

/-- how a step turns world and hidden side: 'fr': objects that are other ones; 'md': objects that hold something else -/
structure Chg (fr md : List Nat) (m : M) (w : World) (m' : M) (w' : World) : Prop where
  keeps : Keeps fr m m'
  heap : ∀ b id, m.own b = some id → md.contains id = false → w'.heap[b]? = w.heap[b]? ∧ m'.own b = some id
  sub : ∀ id, md.contains id = false → fr.contains id = false

theorem mem_keys {δ : Type 1} {l : List (Nat × δ)} {n : Nat} (h : (keys l).contains n = true) : ∃ d, look l n = some d := by
  cases hl : look l n with
  | some d => exact ⟨d, rfl⟩
  | none =>
    have := look_none hl
    simp [keys] at h
    obtain ⟨d, hd⟩ := h
    exact absurd rfl (this _ hd)

/-- what was there holds behind a step, beside what the step leaves -/
theorem Holds.step {w0 : B0} {n : Nat} {σ : St} {a : Act} {w w' : World} {m m' : M} {wr : Wr} {dst : Option Nat} {v : Value}
    (hd : a.defers = []) (hn : a.tmps.size = n)
    (hs : ∀ t d, look σ.s t = some d → d.holds m (a.tmps.getD t undef)) (ho : ∀ id d, look σ.o id = some d → d.holds m w0.heap.size w id)
    (hw' : WOK w0 m' w') (hc : Chg wr.fr (keys wr.o) m w m' w') (hf : fresh σ wr = true)
    (hdst : ∀ t, dst = some t → (keys wr.s).contains t = true ∧ t < n)
    (hws : ∀ t d, look wr.s t = some d → d.holds m' ((a.put dst v).tmps.getD t undef)) (hwo : ∀ id d, look wr.o id = some d → d.holds m' w0.heap.size w' id) :
    Holds w0 n (σ.upd wr) (a.put dst v) w' := by
  have hput : ∀ t, dst ≠ some t → (a.put dst v).tmps.getD t undef = a.tmps.getD t undef := by
    intro t ht
    cases dst with
    | none => rfl
    | some u =>
      have : u ≠ t := fun e => ht (by rw [e])
      simp [Act.put, Array.getD_eq_getD_getElem?, this]
  refine ⟨m', hw', ?_, ?_, ?_, ?_⟩
  · cases dst <;> simpa [Act.put] using hd
  · cases dst <;> simpa [Act.put] using hn
  · intro t d hl
    rw [look_append] at hl
    cases e : look wr.s t with
    | some d' =>
      simp only [e, Option.some_or, Option.some.injEq] at hl
      subst hl
      exact hws t _ e
    | none =>
      simp only [e, Option.none_or] at hl
      have hk : (keys wr.s).contains t = false := by
        cases hk : (keys wr.s).contains t with
        | false => rfl
        | true => obtain ⟨d', h'⟩ := mem_keys hk; rw [h'] at e; cases e
      rw [hput t (fun h => by have := (hdst t h).1; rw [hk] at this; cases this)]
      have hment : d.ment wr.fr = false := by
        unfold fresh at hf
        split at hf
        · rename_i hfr; rw [hfr]
          exact Desc.ment_nil d
        · rename_i fr hfr
          simp only [Bool.and_eq_true] at hf
          have h2 := (List.all_eq_true.1 hf.1.1) _ (look_mem hl)
          simp only [hl, Option.getD_some] at h2
          rw [hk] at h2
          simpa using h2
      exact Desc.holds_keep hc.keeps d _ hment (hs t d hl)
  · intro id d hl
    rw [look_append] at hl
    cases e : look wr.o id with
    | some d' =>
      simp only [e, Option.some_or, Option.some.injEq] at hl
      subst hl
      exact hwo id _ e
    | none =>
      simp only [e, Option.none_or] at hl
      have hk : (keys wr.o).contains id = false := by
        cases hk : (keys wr.o).contains id with
        | false => rfl
        | true => obtain ⟨d', h'⟩ := mem_keys hk; rw [h'] at e; cases e
      have hment : d.ment wr.fr = false := by
        unfold fresh at hf
        split at hf
        · rename_i hfr; rw [hfr]; cases d <;> simp [ODesc.ment]
        · rename_i fr hfr
          simp only [Bool.and_eq_true] at hf
          have h2 := (List.all_eq_true.1 hf.1.2) _ (look_mem hl)
          simp only [hl, Option.getD_some] at h2
          rw [hk] at h2
          simpa using h2
      exact ODesc.holds_keep hc.keeps (hc.sub id hk) (fun b hb => hc.heap b id hb hk) d hment (ho id d hl)

theorem Chg.refl (md : List Nat) (m : M) (w : World) : Chg [] md m w m w :=
  ⟨⟨PH.le_refl _, fun _ _ => rfl, fun _ _ => rfl⟩, fun _ _ h _ => ⟨rfl, h⟩, fun _ _ => rfl⟩

/-! ### rules of code -/
/-- in every world of a state -/
def PT (w0 : B0) (n : Nat) (σ : St) (Q : Act → World → Prop) : Prop := ∀ a w, Holds w0 n σ a w → Q a w
def Ops (P : Program) (ops : Array Oper) (w0 : B0) (n : Nat) (l : List Oper) (σ : St) (Q : Exit → Act → World → Prop) : Prop := ∀ a w, Holds w0 n σ a w → wpList P ops Q l a w

section
variable {P : Program} {ops : Array Oper} {w0 : B0} {n : Nat} {σ : St} {Q : Exit → Act → World → Prop}
theorem Ops.cons {i : Oper} {l : List Oper} {r : Rd} {wr : Wr} (h : Step P ops i r wr) (hr : r.ok σ) (hf : fresh σ wr = true) (hn : (wr.s.all fun p => decide (p.1 < n)) = true)
    (k : Ops P ops w0 n l (σ.upd wr) Q) : Ops P ops w0 n (i :: l) σ Q := fun a w ha => h w0 n σ a w _ Q hr hf hn ha k
theorem Ops.nil (h : PT w0 n σ (Q .normal)) : Ops P ops w0 n [] σ Q := fun a w ha => h a w ha
theorem PT.region {id : Nat} {l : List Oper} (h : Ops P l.toArray w0 n l σ Q) : PT w0 n σ ((Code.region id l.toArray false).wp P Q) := fun a w ha => wp_region_lit (h a w ha)
theorem PT.seq {x y : Code} (h : PT w0 n σ (x.wp P (Exit.then (y.wp P Q) Q))) : PT w0 n σ ((Code.seq x y).wp P Q) := fun a w ha => wp_seq (h a w ha)
theorem PT.skip (h : PT w0 n σ (Q .normal)) : PT w0 n σ (Code.skip.wp P Q) := fun a w ha => wp_skip (h a w ha)
theorem PT.label {l : Nat} (h : PT w0 n σ (Q .normal)) : PT w0 n σ ((Code.label l).wp P Q) := fun a w ha => wp_label (h a w ha)
theorem PT.exit {id : Nat} (h : PT w0 n σ (Q (.exit id))) : PT w0 n σ ((Code.exit id).wp P Q) := fun a w ha => wp_exit (h a w ha)
theorem PT.ret (h : PT w0 n σ (Q .ret)) : PT w0 n σ (Code.ret.wp P Q) := fun a w ha => wp_ret (h a w ha)
theorem PT.block {id : Nat} {c : Code} (h : PT w0 n σ (c.wp P (Exit.inBlock id Q))) : PT w0 n σ ((Code.block id c).wp P Q) := fun a w ha => wp_block (h a w ha)
theorem Holds.bool {a : Act} {w : World} {t : Nat} {b : Bool} (h : Holds w0 n σ a w) (hl : look σ.s t = some (.val b)) : a.eval (.tmp t) = .bool b := by
  obtain ⟨m, h1, h2, h3, h4, h5⟩ := h
  obtain ⟨vs, e1, e2⟩ := h4 t _ hl
  have e1' : vs = [.bool b] := e1
  subst e1'
  exact e2
theorem PT.cond {t : Nat} {x y : Code} (b : Bool) (hl : look σ.s t = some (.val b)) (h1 : b = true → PT w0 n σ (x.wp P Q)) (h2 : b = false → PT w0 n σ (y.wp P Q)) :
    PT w0 n σ ((Code.cond (.tmp t) x y).wp P Q) := fun a w ha => wp_cond_split (ha.bool hl) (fun e => h1 e a w ha) (fun e => h2 e a w ha)
/-- a smaller state -/
theorem PT.sub {σ' : St} {Q : Act → World → Prop} (hs : OkL σ.s σ'.s) (ho : OkL σ.o σ'.o) (h : PT w0 n σ' Q) : PT w0 n σ Q := fun a w ha =>
  h a w (ha.congr (fun t d e => hs.mem _ (look_mem e)) (fun t d e => ho.mem _ (look_mem e)))
/-- a slot told otherwise -/
theorem PT.as {Q : Act → World → Prop} (t : Nat) {d d' : Desc} (hl : look σ.s t = some d) (hi : ∀ m v, d.holds m v → d'.holds m v) (h : PT w0 n ⟨(t, d') :: σ.s, σ.o⟩ Q) : PT w0 n σ Q := fun a w ha => by
  refine h a w ?_
  obtain ⟨m, h1, h2, h3, h4, h5⟩ := ha
  refine ⟨m, h1, h2, h3, fun u e he => ?_, h5⟩
  simp only [look] at he
  cases hb : Nat.beq t u with
  | true =>
    have : t = u := Nat.eq_of_beq_eq_true hb
    subst this
    simp only [hb, cond_true, Option.some.injEq] at he
    subst he
    exact hi _ _ (h4 _ _ hl)
  | false => simp only [hb, cond_false] at he; exact h4 u e he
/-- a fact of what a slot holds -/
theorem PT.fact {Q : Act → World → Prop} (t : Nat) {d : Desc} {p : Prop} (hl : look σ.s t = some d) (hi : ∀ m v, d.holds m v → p) (h : p → PT w0 n σ Q) : PT w0 n σ Q := fun a w ha => by
  have ha' := ha
  obtain ⟨m, h1, h2, h3, h4, h5⟩ := ha'
  exact h (hi _ _ (h4 _ _ hl)) a w ha
/-- ways that meet -/
theorem PT.cut {ι : Type} {x y : Code} (J : ι → St) (φ : ι → Prop) (hx : PT w0 n σ (x.wp P (Exit.then (fun a w => ∃ i, φ i ∧ Holds w0 n (J i) a w) Q)))
    (hy : ∀ i, φ i → PT w0 n (J i) (y.wp P Q)) : PT w0 n σ ((Code.seq x y).wp P Q) := fun a w ha =>
  wp_seq (wp_mono (hx a w ha) fun e a w hq => by cases e <;> first | (obtain ⟨i, h1, h2⟩ := hq; exact hy i h1 a w h2) | exact hq)
theorem PT.meet {ι : Type} {J : ι → St} {φ : ι → Prop} (i : ι) (hφ : φ i) (hs : OkL σ.s (J i).s) (ho : OkL σ.o (J i).o) : PT w0 n σ (fun a w => ∃ i, φ i ∧ Holds w0 n (J i) a w) := fun a w ha =>
  ⟨i, hφ, ha.congr (fun t d e => hs.mem _ (look_mem e)) (fun t d e => ho.mem _ (look_mem e))⟩
/-- a loop: at each round's head the state is one of a family -/
theorem PT.loop {ι : Type} {c : Code} (I : ι → St) (φ : ι → Prop) (μ : ι → Nat) (i0 : ι) (h0 : φ i0) (hs : OkL σ.s (I i0).s) (ho : OkL σ.o (I i0).o)
    (round : ∀ i, φ i → PT w0 n (I i) (c.wp P (Exit.then (fun a w => ∃ j, (φ j ∧ μ j < μ i) ∧ Holds w0 n (I j) a w) Q))) : PT w0 n σ ((Code.loop c).wp P Q) := fun a w ha => by
  have key : ∀ k i, μ i = k → φ i → ∀ a w, Holds w0 n (I i) a w → ∀ (b : Frame) (kk : List Item) (cs : List Frame),
      ∃ e a' w', Q e a' w' ∧ Arrives P (lone (b.at a (.code c :: .inLoop c :: kk)) cs w) b kk cs e a' w' := by
    intro k
    induction k using Nat.strongRecOn with
    | _ k ih =>
      intro i hk hφ a w ha b kk cs
      obtain ⟨e, a₁, w₁, hq, harr⟩ := round i hφ a w ha b (.inLoop c :: kk) cs
      cases e with
      | normal =>
        obtain ⟨j, ⟨hj, hlt⟩, hH⟩ := hq
        obtain ⟨e₂, a₂, w₂, hq₂, harr₂⟩ := ih (μ j) (hk ▸ hlt) j rfl hj a₁ w₁ hH b kk cs
        exact ⟨e₂, a₂, w₂, hq₂, .of_steps (Steps.trans harr (.one step_inLoop)) harr₂⟩
      | exit id => exact ⟨_, a₁, w₁, hq, .pass (x := .inLoop c) rfl (fun _ _ => .inl (by simp)) harr⟩
      | goto l => exact ⟨_, a₁, w₁, hq, .pass (x := .inLoop c) rfl (fun _ _ => .inl (by simp)) harr⟩
      | ret => exact ⟨_, a₁, w₁, hq, .pass (x := .inLoop c) rfl (fun _ _ => .inl (by simp)) harr⟩
      | panic ch => exact ⟨_, a₁, w₁, hq, .pass (x := .inLoop c) rfl (fun _ _ => .inl (by simp)) harr⟩
      | outgrown => exact ⟨_, a₁, w₁, hq, .pass (x := .inLoop c) rfl (fun _ _ => .inl (by simp)) harr⟩
  intro b kk cs
  have ha' : Holds w0 n (I i0) a w := ha.congr (fun t d e => hs.mem _ (look_mem e)) (fun t d e => ho.mem _ (look_mem e))
  obtain ⟨e, a', w', hq, harr⟩ := key _ i0 rfl h0 a w ha' b kk cs
  exact ⟨e, a', w', hq, .of_steps (.one step_loop) harr⟩
end
end Go.Gx
