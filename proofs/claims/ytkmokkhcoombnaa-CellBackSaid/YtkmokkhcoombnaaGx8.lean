/- The small logic, eighth part: stores, arrays of the call's own, calls, a function's beginning and end. Nothing here is about one program. -/
import Derived.Test.YtkmokkhcoombnaaGx7
import Derived.Laws.CopyRow
namespace Go.Gx
open Go.RowKit
set_option linter.unusedVariables false
set_option linter.unusedSimpArgs false

section
variable {P : Program}

theorem setRow_heap_other (w : World) (g : Nat) (cs : Array Value) (b : Nat) (h : b ≠ g) : (w.setRow g cs).heap[b]? = w.heap[b]? := by
  simp only [World.setRow, Array.getElem?_modify]
  rw [if_neg (by omega)]
theorem setRow_size (w : World) (g : Nat) (cs : Array Value) : (w.setRow g cs).heap.size = w.heap.size := by simp [World.setRow]

/-- a block of the call's own is written -/
theorem WOK.row {w0 : B0} {w : World} {m : M} (h : WOK w0 m w) {g id : Nat} (ho : m.own g = some id) (cs : Array Value) : WOK w0 m (w.setRow g cs) := by
  refine ⟨?_, h.old, ?_, ?_, h.apart⟩
  · refine h.below.trans ⟨rfl, rfl, rfl, by rw [setRow_size]; omega, fun k hk hb => ?_⟩
    exact setRow_heap_other _ _ _ _ (fun e => by
      subst e
      rcases (h.own k id ho).1 with h1 | h1
      · omega
      · rw [hb] at h1; cases h1)
  · intro b o u hu
    have h1 := h.on b o u hu
    have hne : b ≠ g := fun e => by subst e; rw [h.apart b id ho o] at hu; cases hu
    rw [← h1]
    exact World.cell?_of_block (a := ⟨b, o, none⟩) (setRow_heap_other _ _ _ _ hne)
  · intro b k hb
    rw [setRow_size]; exact h.own b k hb
theorem Chg.row {w : World} {m : M} {g id : Nat} (ho : m.own g = some id) (cs : Array Value) : Chg [] [id] m w m (w.setRow g cs) := by
  refine ⟨⟨PH.le_refl _, fun _ _ => rfl, fun _ _ => rfl⟩, fun b k hb hk => ⟨setRow_heap_other _ _ _ _ (fun e => ?_), hb⟩, fun _ _ => rfl⟩
  subst e; rw [ho] at hb; cases hb; simp at hk

theorem run_storeVar {T : TypeId} {β : Type} [GoTy β] (h : Ty P T β) {p : PH} {y : β} {us : List Value} (hy : GoTy.rep p y us) {w : World} {g off : Nat} {cur : Array Value} {T' : TypeId} (hg : w.heap[g]? = some (.cells cur T' (0, 0)))
    (hl : off + us.length ≤ cur.size) : (storeVar T ⟨g, off, none⟩ (mkVal (GoTy.agg β) us)).run P w = .ok () (w.setRow g (cur.toList.take off ++ us ++ cur.toList.drop (off + us.length)).toArray) := by
  have hc := cells_mkVal hy
  have hlen := GoTy.len hy
  have h1 := run_storeCells_at P g off T' us 0 cur w hg (by simpa using hl) (GoTy.one hy)
  simp only [Nat.add_zero] at h1
  unfold storeVar
  simp [hc, h.sizeOf w, hlen, h1]

theorem look_one {δ : Type 1} {id id' : Nat} {d e : δ} (h : look [(id, d)] id' = some e) : id = id' ∧ d = e := by
  simp only [look] at h
  cases hb : Nat.beq id id' with
  | false => simp [hb] at h
  | true => simp only [hb, cond_true, Option.some.injEq] at h; exact ⟨Nat.eq_of_beq_eq_true hb, h⟩

theorem ox_store_ptr {T : TypeId} {s id : Nat} {x : Operand} {lx : List (Nat × Desc)} {α β : Type} [GoTy α] [GoTy β] {l : Lens α β} {v : α} {y : β} {hs : List (Nat × Nat)} {ty pos af g} (h : Ty P T β)
    (hx : OpdOk x (.val y) lx) (hn : noHole hs l.off (GoTy.sz β) = true) :
    OpX P ⟨none, .store T (.tmp s) x, ty, pos, af, g⟩ ((s, .ptr id l) :: lx) [(id, .var v hs)] .any [(id, .var (l.set v y) hs)] [] := by
  refine OpX.turn fun m w0 w a hw hs' ho => ?_
  have h1 : a.eval (.tmp s) = .pointer (some ⟨m.blk id, l.off, none⟩) := hs' (s, .ptr id l) (by simp)
  obtain ⟨us, h2, h3⟩ := hx m a (fun p hp => hs' p (by simp [hp]))
  have hob : (ODesc.var v hs).holds m w0.heap.size w id := ho (id, .var v hs) (by simp)
  obtain ⟨cs, T', h4, h5, h6⟩ := hob
  have hus := GoTy.len h2
  have hcs := GoTy.len h5
  have hle := l.hle
  have hr := run_storeVar h h2 h4 (off := l.off) (by simp [fill_length]; omega)
  obtain ⟨W, hW⟩ : ∃ W, W = ((fill m hs cs).toArray.toList.take l.off ++ us ++ (fill m hs cs).toArray.toList.drop (l.off + us.length)).toArray := ⟨_, rfl⟩
  rw [← hW] at hr
  refine ⟨undef, w.setRow (m.blk id) W, m, .inr ⟨?_, rfl⟩, hw.row h6 W, Chg.row h6 W, trivial, fun id' e he => ?_⟩
  · simp only [execOp, h1, h3, Instr.storeAt, Instr.sureAddr, Sem.run_bind, Sem.run_pure, Result.andThen_ok, hr]
  · obtain ⟨rfl, rfl⟩ := look_one he
    refine ⟨cs.take l.off ++ us ++ cs.drop (l.off + GoTy.sz β), T', ?_, l.hset h5 h2, h6⟩
    rw [setRow_heap _ _ _ _ _ _ h4, fill_splice hus hs cs hn (by omega), hW, hus]

theorem set_take_drop {δ : Type} (l us : List δ) (a b n m : Nat) (h : b + m ≤ n) (hn : a + n ≤ l.length) (hu : us.length = m) :
    l.take a ++ ((((l.drop a).take n).take b ++ us ++ ((l.drop a).take n).drop (b + m))) ++ l.drop (a + n) = l.take (a + b) ++ us ++ l.drop (a + b + m) := splice_splice l us a b n m h hn hu

theorem ox_store_aptr {T : TypeId} {s id i : Nat} {e : TypeId} {x : Operand} {lx : List (Nat × Desc)} {α β : Type} [GoTy α] [GoTy β] {l : Lens α β} {xs : List α} {v : α} {y : β} {ty pos af g} (h : Ty P T β)
    (hx : OpdOk x (.val y) lx) (hi : xs[i]? = some v) :
    OpX P ⟨none, .store T (.tmp s) x, ty, pos, af, g⟩ ((s, .aptr id i l) :: lx) [(id, .arr e xs)] .any [(id, .arr e (xs.set i (l.set v y)))] [] := by
  refine OpX.turn fun m w0 w a hw hs' ho => ?_
  have h1 : a.eval (.tmp s) = .pointer (some ⟨m.blk id, i * GoTy.sz α + l.off, none⟩) := hs' (s, .aptr id i l) (by simp)
  obtain ⟨us, h2, h3⟩ := hx m a (fun p hp => hs' p (by simp [hp]))
  have hob : (ODesc.arr e xs).holds m w0.heap.size w id := ho (id, .arr e xs) (by simp)
  obtain ⟨cs, h5, h4⟩ := hob
  have hil : i < xs.length := (List.getElem?_eq_some_iff.1 hi).1
  have hxv : xs[i] = v := (List.getElem?_eq_some_iff.1 hi).2
  have hle := l.hle
  have hus := GoTy.len h2
  have hcs := h5.len
  rcases h4 with ⟨hn1, _⟩ | ⟨⟨cap, cur, hv1, hv3, hv4, hv5, hv6, hv7⟩, hb2⟩
  · rw [hn1] at hil; simp at hil
  have hin : i * GoTy.sz α + GoTy.sz α ≤ xs.length * GoTy.sz α := by
    have := Nat.mul_le_mul_right (GoTy.sz α) (show i + 1 ≤ xs.length from hil)
    rw [Nat.add_mul] at this; omega
  have hcap : xs.length * GoTy.sz α ≤ cap * GoTy.sz α := Nat.mul_le_mul_right _ hv4
  have hr := run_storeVar h h2 hv3 (off := i * GoTy.sz α + l.off) (by omega)
  have hsp := h5.split i hil
  rw [hxv] at hsp
  have hset := h5.set i hil (l.hset hsp h2)
  rw [set_take_drop cs us _ _ _ _ hle (by omega) hus] at hset
  obtain ⟨W, hW⟩ : ∃ W, W = (cur.toList.take (i * GoTy.sz α + l.off) ++ us ++ cur.toList.drop (i * GoTy.sz α + l.off + us.length)).toArray := ⟨_, rfl⟩
  rw [← hW] at hr
  refine ⟨undef, w.setRow (m.blk id) W, m, .inr ⟨?_, rfl⟩, hw.row hb2 W, Chg.row hb2 W, trivial, fun id' e' he => ?_⟩
  · simp only [execOp, h1, h3, Instr.storeAt, Instr.sureAddr, Sem.run_bind, Sem.run_pure, Result.andThen_ok, hr]
  · obtain ⟨rfl, rfl⟩ := look_one he
    refine ⟨_, hset, .inr ⟨⟨cap, W, by rw [hv1, List.length_set], setRow_heap _ _ _ _ _ _ hv3, by simpa using hv4, hv5, ?_, ?_⟩, hb2⟩⟩
    · rw [hW]; simp [hus]; omega
    · simp only [List.length_set, hW, List.toList_toArray]
      have hlen2 : cur.toList.length = cap * GoTy.sz α := by simpa using hv6
      rw [← hv7]
      apply List.ext_getElem?
      intro j
      rw [List.getElem?_take, splice_get (n := us.length) rfl (by rw [hlen2]; omega), hus, splice_get (n := GoTy.sz β) hus (by rw [List.length_take, hlen2]; omega), List.getElem?_take]
      by_cases hj : j < xs.length * GoTy.sz α
      · simp [hj]
      · simp only [hj, if_false]
        rw [if_neg (by omega), if_neg (by omega)]

/-! ### a slice literal -/
/-- the elements of a literal, one behind the other -/
inductive Parts {α : Type} [GoTy α] : Nat → List (Nat × Operand) → List α → List (Nat × Desc) → Prop
  | nil {k : Nat} : Parts k [] [] []
  | cons {k : Nat} {x : Operand} {y : α} {lx : List (Nat × Desc)} {ps : List (Nat × Operand)} {ys : List α} {l : List (Nat × Desc)} (hx : OpdOk x (.val y) lx) (h : Parts (k + 1) ps ys l) : Parts k ((k, x) :: ps) (y :: ys) (lx ++ l)

theorem foldl_set {δ : Type} (vs : List δ) : ∀ (off k : Nat) (cs : Array δ), off + k + vs.length ≤ cs.size →
    ((vs.zipIdx k).foldl (fun cs p => cs.setIfInBounds (off + p.2) p.1) cs).toList = cs.toList.take (off + k) ++ vs ++ cs.toList.drop (off + k + vs.length) := by
  induction vs with
  | nil => intro off k cs h; simp
  | cons v vs ih =>
    intro off k cs h
    simp only [List.zipIdx_cons, List.foldl_cons]
    rw [ih off (k + 1) _ (by simp at h ⊢; omega)]
    have hk : off + k < cs.size := by simp at h; omega
    have e1 : (cs.setIfInBounds (off + k) v).toList = cs.toList.set (off + k) v := by simp
    rw [e1]
    apply List.ext_getElem?
    intro j
    have hl : cs.toList.length = cs.size := by simp
    have := splice_get (cs := cs.toList.set (off + k) v) (us := vs) (off := off + (k + 1)) (n := vs.length) rfl (by simp at h ⊢; omega) j
    rw [this]
    have := splice_get (cs := cs.toList) (us := v :: vs) (off := off + k) (n := (v :: vs).length) rfl (by simp at h ⊢; omega) j
    rw [this, List.getElem?_set]
    simp only [List.length_cons]
    by_cases h1 : j < off + k
    · simp [h1, show j < off + (k + 1) from by omega, show off + k ≠ j from by omega]
    · by_cases h2 : j = off + k
      · subst h2
        simp [hk]
      · have h3 : ¬ j < off + (k + 1) := by omega
        simp only [h1, h3, if_false]
        by_cases h4 : j < off + (k + 1) + vs.length
        · rw [if_pos h4, if_pos (by omega), show j - (off + k) = (j - (off + (k + 1))) + 1 from by omega]; simp
        · rw [if_neg h4, if_neg (by omega), if_neg (by omega)]

theorem Parts.fill {α : Type} [GoTy α] {m : M} {a : Act} : ∀ {k : Nat} {ps : List (Nat × Operand)} {ys : List α} {l : List (Nat × Desc)}, Parts k ps ys l → (∀ p ∈ l, p.2.holds m (a.tmps.getD p.1 undef)) →
    ∀ (cs : Array Value), cs.size = (k + ys.length) * GoTy.sz α → ∃ ds, Instr.fill (fun i => some (i * GoTy.sz α, GoTy.sz α)) cs (ps.map fun p => (p.1, a.eval p.2)) = some ds ∧ ∃ us, RepL m.ph ys us ∧ ds.toList = cs.toList.take (k * GoTy.sz α) ++ us
  | k, _, _, _, .nil, _, cs, hc => by
    refine ⟨cs, rfl, [], rfl, ?_⟩
    have : cs.toList.length = k * GoTy.sz α := by simpa using hc
    rw [List.append_nil, List.take_of_length_le (by omega)]
  | k, _, _, _, @Parts.cons _ _ _ x y lx ps ys l hx h, hs, cs, hc => by
    obtain ⟨vs, h1, h2⟩ := hx m a (fun p hp => hs p (by simp [hp]))
    have hlen := GoTy.len h1
    have hcl := cells_mkVal h1
    have hsz : k * GoTy.sz α + GoTy.sz α ≤ cs.size := by
      rw [hc, List.length_cons, show k + (ys.length + 1) = k + 1 + ys.length from by omega, Nat.add_mul, Nat.add_mul]; omega
    have hf := foldl_set vs (k * GoTy.sz α) 0 cs (by omega)
    obtain ⟨ds, h3, us, h4, h5⟩ := Parts.fill h (fun p hp => hs p (by simp [hp])) ((vs.zipIdx 0).foldl (fun cs p => cs.setIfInBounds (k * GoTy.sz α + p.2) p.1) cs)
      (by rw [← Array.length_toList, hf]; simp [hlen]; rw [hc, List.length_cons, show k + (ys.length + 1) = k + 1 + ys.length from by omega]; rw [Nat.add_mul, Nat.add_mul]; omega)
    refine ⟨ds, ?_, vs ++ us, ⟨vs, us, rfl, h1, h4⟩, ?_⟩
    · simp only [List.map_cons, Instr.fill, h2, hcl]
      rw [if_neg (by simp [hlen]; omega)]
      simpa using h3
    · rw [h5, hf]
      simp only [Nat.add_zero]
      have e : (cs.toList.take (k * GoTy.sz α)).length = k * GoTy.sz α := by rw [List.length_take]; simp; omega
      rw [Nat.add_mul, Nat.one_mul, List.append_assoc, List.take_append, List.take_of_length_le (by rw [e]; omega), e]
      have : k * GoTy.sz α + GoTy.sz α - k * GoTy.sz α = vs.length := by omega
      rw [this]; simp

/-- the cells of a slice literal -/
theorem run_buildSlice {T E : Nat} {α : Type} [GoTy α] {z : α} (h : slB P T E (GoTy.sz α) = true) (hz : TyZ P E z) {n : Nat} {ps : List (Nat × Operand)} {ys : List α} {l : List (Nat × Desc)} (hp : Parts 0 ps ys l) (hn : n = ys.length)
    (hlim : n * GoTy.sz α ≤ 16777216) {m : M} {a : Act} (hs : ∀ p ∈ l, p.2.holds m (a.tmps.getD p.1 undef)) (w : World) :
    ∃ us, RepL m.ph ys us ∧ (Instr.buildSlice T n ((ps.toArray).map fun p => (p.1, a.eval p.2))).run P w = .ok (.slice (some ⟨w.heap.size, 0, none⟩) n n) (w.alloc (.cells us.toArray E)) := by
  obtain ⟨v, h1, h2⟩ := hz.run w
  have hsz : v.cells.size = GoTy.sz α := by have := GoTy.len (h2 (fun _ _ => none)); simpa using this
  have hpos := GoTy.pos (α := α)
  obtain ⟨ds, h3, us, h4, h5⟩ := hp.fill hs ((Array.range (n * GoTy.sz α)).map fun i => v.cells[i % v.cells.size]!) (by simp [hn])
  refine ⟨us, h4, ?_⟩
  have hds : ds = us.toArray := by
    apply Array.ext'
    rw [h5]; simp
  have hun := run_underlying (slB_inv h).1 w
  simp only [Instr.buildSlice, Sem.run_bind, hun, Result.andThen_ok, slB_size h]
  rw [if_neg (by simpa using hlim)]
  by_cases h0 : n * GoTy.sz α = 0
  · have hn0 : n = 0 := by rcases Nat.mul_eq_zero.1 h0 with h | h <;> omega
    have hy : ys = [] := List.eq_nil_of_length_eq_zero (by omega)
    subst hy
    simp [RepL] at h4
    subst h4
    cases hp
    subst hn0
    have er : (Array.map (fun _ : Nat => (default : Value)) (Array.range 0)) = #[] := by apply Array.eq_empty_of_size_eq_zero; simp
    simp [Instr.fill, newRow, er]
  · rw [if_neg h0]
    simp only [Sem.run_bind, h1, Result.andThen_ok, Sem.run_pure]
    have h3' : Instr.fill (fun i => some (i * GoTy.sz α, GoTy.sz α)) ((Array.range (n * GoTy.sz α)).map fun i => v.cells[i % v.cells.size]!) (ps.toArray.map fun p => (p.1, a.eval p.2)).toList = some ds := by
      simpa using h3
    rw [h3']
    simp [newRow, hds]

/-- an array of the call's own -/
theorem arr_new {w0 : B0} {w : World} {m : M} (hw : WOK w0 m w) {id E n : Nat} {α : Type} [GoTy α] {ys : List α} {us : List Value} (h4 : RepL m.ph ys us) (hn : n = ys.length) (hmax : n ≤ 9223372036854775807) :
    (ODesc.arr E ys).holds (m.new id w.heap.size (.slice (some ⟨w.heap.size, 0, none⟩) n n)) w0.heap.size (w.alloc (.cells us.toArray E)) id := by
  have hl := h4.len
  subst hn
  refine ⟨us, h4, .inr ⟨⟨ys.length, us.toArray, by simp [M.new], by simpa [M.new] using heap_new w (.cells us.toArray E), Nat.le_refl _, hmax, by simpa using hl, ?_⟩, by simp [M.new]⟩⟩
  rw [← hl]; simp

theorem exec_buildSlice {T n : Nat} {ps : List (Nat × Operand)} {dst ty pos af g} (a : Act) :
    execOp a.eval ⟨dst, .buildSlice T n ps.toArray, ty, pos, af, g⟩ = (Instr.buildSlice T n (ps.toArray.map fun p => (p.1, a.eval p.2)) >>= fun v => pure (Next.value v)) := rfl
theorem ox_buildSlice_arr {T E n id : Nat} {α : Type} [GoTy α] {z : α} {ps : List (Nat × Operand)} {ys : List α} {l : List (Nat × Desc)} {dst ty pos af g} (h : slB P T E (GoTy.sz α) = true) (hz : TyZ P E z) (hp : Parts 0 ps ys l) (hn : n = ys.length)
    (hlim : n * GoTy.sz α ≤ 16777216) : OpX P ⟨dst, .buildSlice T n ps.toArray, ty, pos, af, g⟩ l [] (.sl id) [(id, .arr E ys)] [id] := by
  refine OpX.turn fun m w0 w a hw hs ho => ?_
  obtain ⟨us, h1, h2⟩ := run_buildSlice h hz hp hn hlim hs w
  have hpos := GoTy.pos (α := α)
  refine ⟨_, _, m.new id w.heap.size (.slice (some ⟨w.heap.size, 0, none⟩) n n), .inl (by rw [exec_buildSlice, Sem.run_bind, h2]; rfl), hw.new _ _ _, Chg.new hw _ _ _, ?_, fun id' e he => ?_⟩
  · simp [Desc.holds, M.new]
  · obtain ⟨rfl, rfl⟩ := look_one he
    exact arr_new hw h1 hn (by have := Nat.le_mul_of_pos_right n hpos; omega)

/-- cells that stay, more of them -/
def M.more (m : M) (w w' : World) : M := { m with ph := fun b o => if b < w.heap.size then m.ph b o else w'.cell? ⟨b, o, none⟩ }
theorem M.more_le {w0 : B0} {w w' : World} {m : M} (h : WOK w0 m w) : m.ph.le (m.more w w').ph := by
  intro b o v hv
  have : b < w.heap.size := World.block_lt_of_cell? _ _ (h.on b o v hv)
  simp [M.more, this, hv]
theorem WOK.more {w0 : B0} {w w' : World} {m : M} (h : WOK w0 m w) (hb : Below w.heap.size w w') : WOK w0 (m.more w w') w' := by
  have hs := h.below.size
  refine ⟨h.below.trans (.of (hb.mono hs)), ?_, ?_, ?_, ?_⟩
  · intro b o v hl hbr hv
    have : b < w.heap.size := by omega
    simp only [M.more, this, if_true] at hv
    exact h.old b o v hl hbr hv
  · intro b o v hv
    simp only [M.more] at hv
    split at hv
    · rename_i hlt
      rw [hb.cell (p := ⟨b, o, none⟩) hlt]; exact h.on b o v hv
    · exact hv
  · intro b id hid
    have := h.own b id hid
    exact ⟨this.1, by have := hb.size; omega⟩
  · intro b id hid o
    have := (h.own b id hid).2
    simp only [M.more, this, if_true]
    exact h.apart b id hid o
theorem Chg.more {w0 : B0} {w w' : World} {m : M} (h : WOK w0 m w) (hb : Below w.heap.size w w') (md : List Nat) : Chg [] md m w (m.more w w') w' :=
  ⟨⟨M.more_le h, fun _ _ => rfl, fun _ _ => rfl⟩, fun b id hid _ => ⟨hb.block b (h.own b id hid).2, hid⟩, fun _ _ => rfl⟩

theorem below_alloc (w : World) (o : Obj) : Below w.heap.size w (w.alloc o) := (Below.refl _ w).alloc (Nat.le_refl _) o

/-- a slice in a new block, only read from now on -/
theorem repS_new {ph : PH} {α : Type} [GoTy α] {ys : List α} {us : List Value} (h4 : RepL ph ys us) {w : World} {E : Nat} (hp : ∀ j u, us[j]? = some u → ph w.heap.size j = some u) (hmax : ys.length ≤ 9223372036854775807) :
    RepS ph ys (.slice (some ⟨w.heap.size, 0, none⟩) ys.length ys.length) :=
  ⟨_, _, us, rfl, Nat.le_refl _, hmax, h4, fun e => (by cases e), .inr ⟨_, 0, rfl, fun j u hu => by simpa using hp j u hu⟩⟩

theorem ox_buildSlice_val {T E n : Nat} {α : Type} [GoTy α] {z : α} {ps : List (Nat × Operand)} {ys : List α} {l : List (Nat × Desc)} {dst ty pos af g} (h : slB P T E (GoTy.sz α) = true) (hz : TyZ P E z) (hp : Parts 0 ps ys l) (hn : n = ys.length)
    (hlim : n * GoTy.sz α ≤ 16777216) : OpX P ⟨dst, .buildSlice T n ps.toArray, ty, pos, af, g⟩ l [] (.val ys) [] [] := by
  refine OpX.turn fun m w0 w a hw hs ho => ?_
  obtain ⟨us, h1, h2⟩ := run_buildSlice h hz hp hn hlim hs w
  have hpos := GoTy.pos (α := α)
  have hb := below_alloc w (.cells us.toArray E)
  refine ⟨_, _, m.more w (w.alloc (.cells us.toArray E)), .inl (by rw [exec_buildSlice, Sem.run_bind, h2]; rfl), hw.more hb, Chg.more hw hb _, ?_, fun id' e he => by cases he⟩
  subst hn
  refine list_holds (repS_new (E := E) (h1.mono (M.more_le hw)) (fun j u hu => ?_) (by have := Nat.le_mul_of_pos_right ys.length hpos; omega))
  have hnew := heap_new w (.cells us.toArray E)
  simp only [M.more, Nat.lt_irrefl, if_false]
  unfold World.cell?
  rw [hnew]
  simp [hu]

/-! ### append to an array of the call's own -/
def apB (P : Program) (T E sz bytes : Nat) : Bool :=
  slB P T E sz && (match P.info? E with | some i => i.bytes == bytes && (match i.zero with | some z => z.cells.size == sz | none => false) | none => false)
theorem apB_inv {T E sz bytes : Nat} (h : apB P T E sz bytes = true) : ∃ i z, P.underlying T = some (.slice E) ∧ P.info? E = some i ∧ i.size = sz ∧ i.bytes = bytes ∧ i.zero = some z ∧ z.cells.size = sz := by
  unfold apB at h
  simp only [Bool.and_eq_true] at h
  obtain ⟨h1, h2⟩ := h
  have h3 := slB_inv h1
  cases hq : P.info? E with
  | none => rw [hq] at h2; cases h2
  | some i =>
    rw [hq] at h2
    simp only [Bool.and_eq_true, beq_iff_eq] at h2
    obtain ⟨h4, h5⟩ := h2
    cases hz : i.zero with
    | none => rw [hz] at h5; cases h5
    | some z =>
      rw [hz] at h5
      have := h3.2
      simp [hq] at this
      exact ⟨i, z, h3.1, rfl, this, h4, hz, by simpa using h5⟩

theorem run_append_empty {T E sz : Nat} (h : slB P T E sz = true) (w : World) (ty : TypeId) (base a' : Option Addr) (n c c' : Nat) (hc : n ≤ c) :
    (Builtin.append_ #[T, T] ty #[.slice base n c, .slice a' 0 c']).run P w = .ok (.slice base n c) w := by
  have hu := run_underlying (slB_inv h).1 w
  have hs := slB_size h w
  cases base <;> cases a' <;> simp [Builtin.append_, hu, hs, Builtin.lenOf, hc, Builtin.firstCells, loadCells, loadCellsFrom, storeCells]

/-- an append to an empty slice that has no room -/
theorem run_append_none (w : World) (t ty e : TypeId) (i : TypeInfo) (z : Value) (ht : P.underlying t = some (.slice e)) (hi : P.info? e = some i) (hz : i.zero = some z)
    (a : Addr) (n c : Nat) (news : List Value) (hl : news.length = n * i.size) (hnews : ∀ j v, news[j]? = some v → w.cell? (a.add j) = some v)
    (h0 : 0 < n) (h63 : (n : Int) ≤ 9223372036854775807) (h48 : n * i.bytes ≤ 140737488355328) (ad : Option Addr) :
    (Builtin.append_ #[t, t] ty #[.slice ad 0 0, .slice (some a) n c]).run P w =
      .ok (.slice (some ⟨w.heap.size, 0, none⟩) n (grownCap w n 0 e)) (w.drew.alloc (.cells (news.toArray ++ Builtin.zeroCells z.cells (grownCap w n 0 e - n)) e)) := by
  cases ad with
  | none => exact run_append_nil w t ty e i z ht hi hz a n c news hl hnews h0 h63 (by omega)
  | some b =>
    have hb : (0 + n) * i.bytes ≤ 140737488355328 := by simpa using h48
    have hr := run_append_grow w t ty e i z ht hi hz b 0 0 [] (by simp) (fun j v h => by simp at h) a n c news hl hnews (by omega) (by omega) (growslice_fits (by omega) hb)
    simpa using hr

/-- behind an append -/
theorem append_arr {T E bytes : Nat} {α : Type} [GoTy α] (h : apB P T E (GoTy.sz α) bytes = true) {w0 : B0} {w : World} {m : M} (hw : WOK w0 m w) {id : Nat} {l xs : List α} (ho : (ODesc.arr E l).holds m w0.heap.size w id)
    {v : Value} (hv : RepS m.ph xs v) (ty : TypeId) (hb : (l.length + xs.length) * bytes ≤ 140737488355328) (hmax : l.length + xs.length ≤ 9223372036854775807) :
    ∃ v' w' m', (Builtin.append_ #[T, T] ty #[m.sv id, v]).run P w = .ok v' w' ∧ WOK w0 m' w' ∧ Chg [id] [id] m w m' w' ∧ v' = m'.sv id ∧ (ODesc.arr E (l ++ xs)).holds m' w0.heap.size w' id := by
  obtain ⟨i, z, e1, e2, e3, e4, e5, e6⟩ := apB_inv h
  obtain ⟨cs, h2, h1⟩ := ho
  obtain ⟨a', c', ds, hv1, hv2, hv3, hv4, hv5, hv6⟩ := hv
  subst hv1
  have hds := hv4.len
  have hcs := h2.len
  have hsl : slB P T E (GoTy.sz α) = true := by unfold apB at h; simp only [Bool.and_eq_true] at h; exact h.1
  have hpos := GoTy.pos (α := α)
  by_cases hx : xs = []
  · subst hx
    simp only [RepL] at hv4
    subst hv4
    rcases h1 with ⟨hn2, ad, hn1⟩ | ⟨⟨cap, cur, k1, k3, k4, k5, k6, k7⟩, hb2⟩
    · refine ⟨.slice ad 0 0, w, m, ?_, hw, ⟨⟨PH.le_refl _, fun _ _ => rfl, fun _ _ => rfl⟩, fun _ _ h _ => ⟨rfl, h⟩, fun _ h => h⟩, hn1.symm, ?_⟩
      · rw [hn1]; exact run_append_empty hsl w ty ad a' 0 0 c' (Nat.le_refl _)
      · rw [List.append_nil]; exact ⟨cs, h2, .inl ⟨hn2, ad, hn1⟩⟩
    · refine ⟨_, w, m, ?_, hw, ⟨⟨PH.le_refl _, fun _ _ => rfl, fun _ _ => rfl⟩, fun _ _ h _ => ⟨rfl, h⟩, fun _ h => h⟩, k1.symm, ?_⟩
      · rw [k1]; exact run_append_empty hsl w ty _ a' _ _ c' k4
      · rw [List.append_nil]; exact ⟨cs, h2, .inr ⟨⟨cap, cur, k1, k3, k4, k5, k6, k7⟩, hb2⟩⟩
  · have hxl : 0 < xs.length := List.length_pos_iff.2 hx
    have hdne : ds ≠ [] := fun e => by
      have h9 := Nat.mul_pos hxl hpos
      rw [e, List.length_nil] at hds
      omega
    rcases hv6 with hv6 | ⟨b, o, rfl, hv6⟩
    · exact absurd hv6 hdne
    have hnews : ∀ j u, ds[j]? = some u → w.cell? ((⟨b, o, none⟩ : Addr).add j) = some u := fun j u hu => by
      rw [Addr.add_mid]; exact hw.on _ _ _ (hv6 j u hu)
    have hsm : l.length + xs.length ≤ maxLen := by unfold maxLen; omega
    have hgrownB : ∀ (old : Nat) (cells : Array Value), Below w.heap.size w (w.drew.alloc (.cells cells E)) := fun old cells => ((Below.refl _ w).drew).alloc (Nat.le_refl _) _
    -- a new row
    have grow : ∀ (old : Nat), old < l.length + xs.length → ∀ (cells : Array Value), cells.toList.take ((l.length + xs.length) * GoTy.sz α) = cs ++ ds → cells.size = grownCap w (l.length + xs.length) old E * GoTy.sz α →
        WOK w0 (m.new id w.heap.size (.slice (some ⟨w.heap.size, 0, none⟩) (l.length + xs.length) (grownCap w (l.length + xs.length) old E))) (w.drew.alloc (.cells cells E)) ∧
        Chg [id] [id] m w (m.new id w.heap.size (.slice (some ⟨w.heap.size, 0, none⟩) (l.length + xs.length) (grownCap w (l.length + xs.length) old E))) (w.drew.alloc (.cells cells E)) ∧
        (ODesc.arr E (l ++ xs)).holds (m.new id w.heap.size (.slice (some ⟨w.heap.size, 0, none⟩) (l.length + xs.length) (grownCap w (l.length + xs.length) old E))) w0.heap.size (w.drew.alloc (.cells cells E)) id := by
      intro old ho cells hc1 hc2
      have hge := grownCap_ge w (l.length + xs.length) old E
      have hcm := grownCap_le_maxLen w (l.length + xs.length) old E hsm
      have hwd : WOK w0 m w.drew := hw.drew
      have hch := Chg.new hwd id (.slice (some ⟨w.heap.size, 0, none⟩) (l.length + xs.length) (grownCap w (l.length + xs.length) old E)) (.cells cells E)
      refine ⟨hwd.new id _ _, ⟨hch.keeps, hch.heap, hch.sub⟩, cs ++ ds, (h2.append hv4), .inr ⟨⟨grownCap w (l.length + xs.length) old E, cells, by simp [M.new], by simpa [M.new] using heap_new w.drew (.cells cells E), by simpa using hge, hcm, hc2, by simpa using hc1⟩, by simp [M.new]⟩⟩
    have hzs : z.cells.size = i.size := by omega
    have hzero : ∀ k, (Builtin.zeroCells z.cells k).size = k * GoTy.sz α := fun k => by rw [size_zeroCells, e6]
    rcases h1 with ⟨hl0, ad, hn1⟩ | ⟨⟨cap, cur, k1, k3, k4, k5, k6, k7⟩, hb2⟩
    · -- empty
      subst hl0
      simp only [RepL] at h2
      subst h2
      have hr := run_append_none w T ty E i z e1 e2 e5 ⟨b, o, none⟩ xs.length c' ds (by rw [hds, e3]) hnews hxl (by simp at hmax; omega) (by simp at hb; rw [e4]; omega) ad
      have hge := grownCap_ge w xs.length 0 E
      obtain ⟨g1, g2, g3⟩ := grow 0 (by simpa using hxl) (ds.toArray ++ Builtin.zeroCells z.cells (grownCap w xs.length 0 E - xs.length))
        (by simp [← hds]) (by rw [Array.size_append, hzero]; simp only [List.size_toArray, hds, List.length_nil, Nat.zero_add, ← Nat.add_mul]; congr 1; omega)
      simp only [List.length_nil, Nat.zero_add, List.nil_append] at g1 g2 g3
      exact ⟨_, _, _, by rw [hn1]; exact hr, g1, g2, by simp [M.new], by simpa using g3⟩
    · by_cases hroom : l.length + xs.length ≤ cap
      · -- room
        have hfit : l.length * i.size + ds.length ≤ cur.size := by
          rw [k6, hds, e3, ← Nat.add_mul]; exact Nat.mul_le_mul_right _ hroom
        have hr := run_append_room w T ty E i e1 e2 (m.blk id) l.length cap cur k3 ⟨b, o, none⟩ xs.length c' ds (by rw [hds, e3]) hnews hv4.one hroom hfit
        obtain ⟨W, hW⟩ : ∃ W, W = (cur.toList.take (l.length * i.size) ++ ds ++ cur.toList.drop (l.length * i.size + ds.length)).toArray := ⟨_, rfl⟩
        rw [← hW] at hr
        have hWO := hw.row hb2 W
        have hCh := Chg.row (w := w) hb2 W
        refine ⟨_, w.setRow (m.blk id) W, { m with sv := fun k => if k = id then .slice (some ⟨m.blk id, 0, none⟩) (l.length + xs.length) cap else m.sv k }, by rw [k1]; exact hr, ⟨hWO.below, hWO.old, hWO.on, hWO.own, hWO.apart⟩, ⟨⟨PH.le_refl _, fun _ _ => rfl, fun k hk => ?_⟩, hCh.heap, fun _ h => h⟩, by simp, cs ++ ds, h2.append hv4, .inr ⟨⟨cap, W, by simp, setRow_heap _ _ _ _ _ _ k3, by simpa using hroom, k5, ?_, ?_⟩, hb2⟩⟩
        · simp at hk; simp; exact fun e => absurd e hk
        · rw [hW]; simp; rw [e3] at hfit ⊢; omega
        · have hlc : cur.toList.length = cap * GoTy.sz α := by simpa using k6
          rw [hW, e3, List.length_append, List.toList_toArray, ← k7, Nat.add_mul, ← hds]
          have e9 : (cur.toList.take (l.length * GoTy.sz α)).length = l.length * GoTy.sz α := by rw [k7, hcs]
          rw [List.take_append_of_le_length (by rw [List.length_append, e9]; exact Nat.le_refl _), List.take_of_length_le (by rw [List.length_append, e9]; exact Nat.le_refl _)]
      · -- it grows
        have holds : ∀ j u, cs[j]? = some u → w.cell? ((⟨m.blk id, 0, none⟩ : Addr).add j) = some u := fun j u hu => by
          rw [Addr.add_mid]
          rw [← k7, List.getElem?_take] at hu
          split at hu
          · simp [World.cell?, k3]; simpa using hu
          · cases hu
        have hr := run_append_grow w T ty E i z e1 e2 e5 ⟨m.blk id, 0, none⟩ l.length cap cs (by rw [hcs, e3]) holds ⟨b, o, none⟩ xs.length c' ds (by rw [hds, e3]) hnews (by omega) (by omega) (growslice_fits (by omega) (by rw [e4]; exact hb))
        have hge := grownCap_ge w (l.length + xs.length) cap E
        obtain ⟨g1, g2, g3⟩ := grow cap (by omega) (cs.toArray ++ ds.toArray ++ Builtin.zeroCells z.cells (grownCap w (l.length + xs.length) cap E - (l.length + xs.length)))
          (by simp only [Array.toList_append, List.toList_toArray]; rw [List.take_append_of_le_length (by rw [List.length_append, hcs, hds, ← Nat.add_mul]; exact Nat.le_refl _), List.take_of_length_le (by rw [List.length_append, hcs, hds, ← Nat.add_mul]; exact Nat.le_refl _)])
          (by rw [Array.size_append, Array.size_append, hzero]; simp only [List.size_toArray, hcs, hds, ← Nat.add_mul]; congr 1; omega)
        exact ⟨_, _, _, by rw [k1]; exact hr, g1, g2, by simp [M.new], g3⟩
end
end Go.Gx
