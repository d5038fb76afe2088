/- The small logic, eighteenth part: maps of the call's own whose keys are numbers. Nothing here is about one program. -/
import Derived.Test.YtkmokkhcoombnaaGxH
import Derived.MapKept
namespace Go.Gx
open Go.RowKit Sp
set_option linter.unusedVariables false
set_option linter.unusedSimpArgs false
section
variable {P : Program}
/-- a function's value -/
@[reducible] def fnV (f : FuncId) : Value := .func (.func f) #[] #[]
/-- what a key has -/
def mget : List (Int × Value) → Int → Option Value
  | [], _ => none
  | p :: l, k => if k = p.1 then some p.2 else mget l k
/-- a key is given a value -/
def mset : List (Int × Value) → Int → Value → List (Int × Value)
  | [], k, v => [(k, v)]
  | p :: l, k, v => if k = p.1 then (k, v) :: l else p :: mset l k v
def mpB (P : Program) (T : TypeId) : Bool := match P.underlying T with | some (.map k _) => (match P.underlying k with | some (.int _) => true | _ => false) | _ => false
theorem mpB_inv {T : TypeId} (h : mpB P T = true) : ∃ k e ik, P.underlying T = some (.map k e) ∧ P.underlying k = some (.int ik) := by
  unfold mpB at h
  split at h
  · rename_i k e he
    split at h
    · rename_i ik hk; exact ⟨k, e, ik, he, hk⟩
    · cases h
  · cases h
theorem ox_makeMap {T id : Nat} {dst ty pos af g} : OpX P ⟨dst, .makeMap T none, ty, pos, af, g⟩ [] [] (.mp id) [(id, .imap [])] [id] := by
  refine OpX.turn fun m w0 w a hw hs ho => ?_
  refine ⟨.map (some w.heap.size), w.alloc (.map #[] 0), m.new id w.heap.size (.map (some w.heap.size)), .inl rfl, hw.new _ _ _, Chg.new hw _ _ _, by simp [Desc.holds, M.new], fun id' e he => ?_⟩
  obtain ⟨rfl, rfl⟩ := look_one he
  exact ⟨#[], 0, by simpa [M.new] using heap_new w (.map #[] 0), rfl, by simp [M.new]⟩

open Instr in
theorem findNow_spec (ik : IntKind) (k : Int) : ∀ (es : List MapEntry) (kv : List (Int × Value)) (i : Nat), es.map (fun e => (e.key, e.val)) = kv.map (fun p => (.int .i64 p.1, p.2)) →
    (mget kv k = none ∧ findNow (.int ik) (.int .i64 k) es i = some none ∧ mset kv k = fun v => kv ++ [(k, v)]) ∨
    ∃ j v, mget kv k = some v ∧ findNow (.int ik) (.int .i64 k) es i = some (some (i + j, v)) ∧ j < es.length ∧ (∃ e, es[j]? = some e ∧ e.key = .int .i64 k) ∧ ∀ u, ((es.modify j fun e => { e with key := .int .i64 k, val := u }).map fun e => (e.key, e.val)) = (mset kv k u).map (fun p => (.int .i64 p.1, p.2))
  | [], [], i, _ => .inl ⟨rfl, rfl, rfl⟩
  | [], p :: kv, i, h => by simp at h
  | e :: es, [], i, h => by simp at h
  | e :: es, p :: kv, i, h => by
    simp only [List.map_cons, List.cons.injEq, Prod.mk.injEq] at h
    obtain ⟨⟨h1, h2⟩, h3⟩ := h
    by_cases hk : k = p.1
    · right
      refine ⟨0, e.val, by simp [mget, hk, h2], ?_, by simp, ⟨e, by simp, by rw [h1, hk]⟩, fun u => ?_⟩
      · simp [findNow, sameNow, h1, hk]
      · subst hk
        simp [mset, h3]
    · have hne : (k == p.1) = false := by simpa using hk
      rcases findNow_spec ik k es kv (i + 1) h3 with ⟨h4, h5, h6⟩ | ⟨j, v, h4, h5, h6, ⟨e', h7, h9⟩, h8⟩
      · left
        refine ⟨by simp [mget, hk, h4], by simp [findNow, sameNow, h1, hne, h5], ?_⟩
        funext v
        simp [mset, hk, h6]
      · right
        refine ⟨j + 1, v, by simp [mget, hk, h4], ?_, by simpa using h6, ⟨e', by simpa using h7, h9⟩, fun u => ?_⟩
        · simp only [findNow, sameNow, h1, hne, if_true, h5]
          congr 3; omega
        · simp [mset, hk, h1, h2, h8 u]

theorem run_checkInt {t : TypeId} {ik : IntKind} (h : P.underlying t = some (.int ik)) (w : World) (b : Bool) (n : Nat) (v : Value) : (Instr.checkKey b (n + 1) t v).run P w = .ok () w := by
  simp [Instr.checkKey, run_underlying h]

theorem WOK.obj {w0 : B0} {w : World} {m : M} (h : WOK w0 m w) {g id : Nat} (ho : m.own g = some id) (o : Obj) : WOK w0 m { w with heap := w.heap.setIfInBounds g o } := by
  have hoth : ∀ b, b ≠ g → (w.heap.setIfInBounds g o)[b]? = w.heap[b]? := fun b hb => by rw [Array.getElem?_setIfInBounds_ne (Ne.symm hb)]
  refine ⟨?_, h.old, ?_, ?_, h.apart⟩
  · refine h.below.trans ⟨rfl, rfl, rfl, by simp, fun k hk hb => ?_⟩
    refine hoth k (fun e => ?_)
    subst e
    rcases (h.own k id ho).1 with h1 | h1
    · omega
    · rw [hb] at h1; cases h1
  · intro b o' u hu
    have h1 := h.on b o' u hu
    have hne : b ≠ g := fun e => by subst e; rw [h.apart b id ho o'] at hu; cases hu
    rw [← h1]
    exact World.cell?_of_block (a := ⟨b, o', none⟩) (hoth b hne)
  · intro b k hb
    have := h.own b k hb
    exact ⟨this.1, by simpa using this.2⟩
theorem Chg.obj {w : World} {m : M} {g id : Nat} (ho : m.own g = some id) (o : Obj) : Chg [] [id] m w m { w with heap := w.heap.setIfInBounds g o } := by
  refine ⟨⟨PH.le_refl _, fun _ _ => rfl, fun _ _ => rfl⟩, fun b k hb hk => ⟨?_, hb⟩, fun _ _ => rfl⟩
  show (w.heap.setIfInBounds g o)[b]? = _
  rw [Array.getElem?_setIfInBounds_ne]
  intro e; subst e; rw [ho] at hb; cases hb; simp at hk
theorem OpdOk.funcV {f : FuncId} : OpdOk (.func f) (.raw (fnV f)) [] := fun m a _ => rfl

theorem run_mapSet {T : TypeId} (h : mpB P T = true) {w : World} {g : Nat} {es : Array MapEntry} {clock : Nat} (hg : w.heap[g]? = some (.map es clock)) {kv : List (Int × Value)} (hkv : es.toList.map (fun e => (e.key, e.val)) = kv.map (fun p => (.int .i64 p.1, p.2))) (k : Int) (v : Value) :
    ∃ es' clock', (Instr.mapUpdate T (.map (some g)) (.int .i64 k) v).run P w = .ok () { w with heap := w.heap.setIfInBounds g (.map es' clock') } ∧ es'.toList.map (fun e => (e.key, e.val)) = (mset kv k v).map (fun p => (.int .i64 p.1, p.2)) := by
  obtain ⟨kt, e, ik, h1, h2⟩ := mpB_inv h
  have hget := MapKept.run_getObj_map (P := P) hg
  have hchk := run_checkInt h2 w false 9999 (.int .i64 k)
  rcases findNow_spec ik k es.toList kv 0 hkv with ⟨h3, h4, h5⟩ | ⟨j, u, h3, h4, h5, ⟨e', h6, h7⟩, h8⟩
  · have hfind : (Instr.findKey kt (.int .i64 k) es.toList).run P w = .ok none w := by simp [Instr.findKey, run_underlying h2, h4]
    refine ⟨es.push { key := .int .i64 k, val := v, born := clock }, clock + 1, ?_, ?_⟩
    · simp only [Instr.mapUpdate, Sem.run_bind, run_underlying h1, Result.andThen_ok, hget, hchk, hfind]
      exact MapKept.run_setObj_map _ hg
    · rw [h5]; simp [hkv]
  · have hfind : (Instr.findKey kt (.int .i64 k) es.toList).run P w = .ok (some (j, u)) w := by simp [Instr.findKey, run_underlying h2, h4]
    have hstay : (Instr.keyThatStays (((es[j]?).map (·.key)).getD (.int .i64 k)) (.int .i64 k)).run P w = .ok (.int .i64 k) w := by
      have e1 : es[j]? = some e' := by simpa using h6
      rw [e1]
      simp [Instr.keyThatStays, h7, Instr.sameBits]
    refine ⟨es.modify j fun e => { e with key := .int .i64 k, val := v }, clock, ?_, ?_⟩
    · simp only [Instr.mapUpdate, Sem.run_bind, run_underlying h1, Result.andThen_ok, hget, hchk, hfind, hstay]
      exact MapKept.run_setObj_map _ hg
    · rw [Array.toList_modify]; exact h8 v
theorem ox_insert {T s id : Nat} {kv : List (Int × Value)} {key x : Operand} {lk lx : List (Nat × Desc)} {k : Int} {v : Value} {ty pos af g} (h : mpB P T = true) (hk : OpdOk key (.val k) lk) (hx : OpdOk x (.raw v) lx) :
    OpX P ⟨none, .insert T (.tmp s) key x, ty, pos, af, g⟩ ((s, .mp id) :: (lk ++ lx)) [(id, .imap kv)] .any [(id, .imap (mset kv k v))] [] := by
  refine OpX.turn fun m w0 w a hw hs ho => ?_
  have e1 : a.eval (.tmp s) = .map (some (m.blk id)) := hs (s, .mp id) (by simp)
  have e2 := (holds_int (hk m a fun p hp => hs p (by simp [hp]))).1
  have e3 : a.eval x = v := hx m a fun p hp => hs p (by simp [hp])
  obtain ⟨es, clock, h1, h2, h3⟩ := ho (id, .imap kv) (by simp)
  obtain ⟨es', clock', h4, h5⟩ := run_mapSet h h1 h2 k v
  refine ⟨undef, _, m, .inr ⟨by simp only [execOp, e1, e2, e3, Sem.run_bind, h4, Result.andThen_ok]; rfl, rfl⟩, hw.obj h3 _, Chg.obj h3 _, trivial, fun id' e he => ?_⟩
  obtain ⟨rfl, rfl⟩ := look_one he
  have hlt := (hw.own _ _ h3).2
  exact ⟨es', clock', by simp [hlt], h5, h3⟩

theorem run_mapGet {T kt e : TypeId} {ik : IntKind} (h1 : P.underlying T = some (.map kt e)) (h2 : P.underlying kt = some (.int ik)) {w : World} {g : Nat} {es : Array MapEntry} {clock : Nat} (hg : w.heap[g]? = some (.map es clock)) {kv : List (Int × Value)} (hkv : es.toList.map (fun e => (e.key, e.val)) = kv.map (fun p => (.int .i64 p.1, p.2))) (k : Int) :
    (Instr.findKey kt (.int .i64 k) es.toList).run P w = .ok none w ∧ mget kv k = none ∨ ∃ j v, (Instr.findKey kt (.int .i64 k) es.toList).run P w = .ok (some (j, v)) w ∧ mget kv k = some v := by
  rcases findNow_spec ik k es.toList kv 0 hkv with ⟨h3, h4, h5⟩ | ⟨j, u, h3, h4, h5, ⟨e', h6, h7⟩, h8⟩
  · exact .inl ⟨by simp [Instr.findKey, run_underlying h2, h4], h3⟩
  · exact .inr ⟨j, u, by simp [Instr.findKey, run_underlying h2, h4], h3⟩
def mpZ (P : Program) (T : TypeId) (z : Value) : Bool := match P.underlying T with | some (.map k e) => (match P.underlying k with | some (.int _) => true | _ => false) && (match (P.info? e).bind (·.zero) with | some (.bool b) => (match z with | .bool c => b == c | _ => false) | some .nilFunc => (match z with | .nilFunc => true | _ => false) | _ => false) | _ => false
theorem mpZ_inv {T : TypeId} {z : Value} (h : mpZ P T z = true) : ∃ k e ik, P.underlying T = some (.map k e) ∧ P.underlying k = some (.int ik) ∧ ∀ w : World, (zeroValue e).run P w = .ok z w := by
  unfold mpZ at h
  split at h
  · rename_i k e he
    simp only [Bool.and_eq_true] at h
    obtain ⟨h1, h2⟩ := h
    split at h1
    · rename_i ik hk
      refine ⟨k, e, ik, he, hk, fun w => ?_⟩
      have hz : (P.info? e).bind (·.zero) = some z := by
        split at h2
        · rename_i b hb
          split at h2
          · simp only [beq_iff_eq] at h2; rw [hb, h2]
          · cases h2
        · rename_i hb
          split at h2
          · exact hb
          · cases h2
        · cases h2
      cases hq : P.info? e with
      | none => simp [hq] at hz
      | some i => simp [hq] at hz; simp [zeroValue, typeInfo, hq, hz]
    · cases h1
  · cases h
section lk
variable {T s id : Nat} {kv : List (Int × Value)} {key : Operand} {lk : List (Nat × Desc)} {k : Int} {dst : Option Tmp} {ty : TypeId} {pos : String} {af : Array Edge} {g : Option (Nat × Bool)}
theorem ox_lookup_fn {f : FuncId} (h : mpZ P T .nilFunc = true) (hk : OpdOk key (.val k) lk) (hv : mget kv k = some (fnV f)) :
    OpX P ⟨dst, .lookup T (.tmp s) key true, ty, pos, af, g⟩ ((s, .mp id) :: lk) [(id, .imap kv)] (.tup [.clo f [], .val true]) [] [] := by
  refine OpX.pure fun m w0 w a hw hs ho => ?_
  have e1 : a.eval (.tmp s) = .map (some (m.blk id)) := hs (s, .mp id) (by simp)
  have e2 := (holds_int (hk m a fun p hp => hs p (by simp [hp]))).1
  obtain ⟨es, clock, h1, h2, h3⟩ := ho (id, .imap kv) (by simp)
  obtain ⟨kt, e, ik, h4, h5, h6⟩ := mpZ_inv h
  have hget := MapKept.run_getObj_map (P := P) h1
  rcases run_mapGet h4 h5 h1 h2 k with ⟨_, h7⟩ | ⟨j, v, h7, h8⟩
  · rw [hv] at h7; cases h7
  · rw [hv] at h8; cases h8
    have hchk := run_checkInt h5 w es.isEmpty 9999 (.int .i64 k)
    refine ⟨.tuple #[fnV f, .bool true], ?_, [fnV f, .bool true], rfl, _, _, rfl, ⟨[], rfl, rfl⟩, _, _, rfl, bool_holds m true, rfl⟩
    simp [execOp, e1, e2, Instr.lookup, run_underlying h4, hget, hchk, h7]
theorem ox_lookup_noFn (h : mpZ P T .nilFunc = true) (hk : OpdOk key (.val k) lk) (hv : mget kv k = none) :
    OpX P ⟨dst, .lookup T (.tmp s) key true, ty, pos, af, g⟩ ((s, .mp id) :: lk) [(id, .imap kv)] (.tup [.any, .val false]) [] [] := by
  refine OpX.pure fun m w0 w a hw hs ho => ?_
  have e1 : a.eval (.tmp s) = .map (some (m.blk id)) := hs (s, .mp id) (by simp)
  have e2 := (holds_int (hk m a fun p hp => hs p (by simp [hp]))).1
  obtain ⟨es, clock, h1, h2, h3⟩ := ho (id, .imap kv) (by simp)
  obtain ⟨kt, e, ik, h4, h5, h6⟩ := mpZ_inv h
  have hget := MapKept.run_getObj_map (P := P) h1
  rcases run_mapGet h4 h5 h1 h2 k with ⟨h7, _⟩ | ⟨j, v, h7, h8⟩
  · have hchk := run_checkInt h5 w es.isEmpty 9999 (.int .i64 k)
    refine ⟨.tuple #[.nilFunc, .bool false], ?_, [.nilFunc, .bool false], rfl, _, _, rfl, trivial, _, _, rfl, bool_holds m false, rfl⟩
    simp [execOp, e1, e2, Instr.lookup, run_underlying h4, hget, hchk, h7, h6]
  · rw [hv] at h8; cases h8
/-- a set of numbers as a map -/
def bk (l : List Int) : List (Int × Value) := l.map fun k => (k, .bool true)
theorem mget_bk (l : List Int) (k : Int) : mget (bk l) k = if k ∈ l then some (.bool true) else none := by
  induction l with
  | nil => rfl
  | cons x l ih =>
    by_cases h : k = x
    · simp [bk, mget, h]
    · have : mget (bk (x :: l)) k = mget (bk l) k := by simp [bk, mget, h]
      rw [this, ih]; simp [h]
theorem mset_bk (l : List Int) (k : Int) : mset (bk l) k (.bool true) = bk (if k ∈ l then l else l ++ [k]) := by
  induction l with
  | nil => rfl
  | cons x l ih =>
    by_cases h : k = x
    · simp [bk, mset, h]
    · have : mset (bk (x :: l)) k (.bool true) = (x, .bool true) :: mset (bk l) k (.bool true) := by simp [bk, mset, h]
      rw [this, ih]
      by_cases h2 : k ∈ l
      · simp [h, h2, bk]
      · simp [h, h2, bk]
theorem ox_lookupB {l : List Int} (h : mpZ P T (.bool false) = true) (hk : OpdOk key (.val k) lk) :
    OpX P ⟨dst, .lookup T (.tmp s) key false, ty, pos, af, g⟩ ((s, .mp id) :: lk) [(id, .imap (bk l))] (.val (decide (k ∈ l))) [] [] := by
  refine OpX.pure fun m w0 w a hw hs ho => ?_
  have e1 : a.eval (.tmp s) = .map (some (m.blk id)) := hs (s, .mp id) (by simp)
  have e2 := (holds_int (hk m a fun p hp => hs p (by simp [hp]))).1
  obtain ⟨es, clock, h1, h2, h3⟩ := ho (id, .imap (bk l)) (by simp)
  obtain ⟨kt, e, ik, h4, h5, h6⟩ := mpZ_inv h
  have hget := MapKept.run_getObj_map (P := P) h1
  have hchk := run_checkInt h5 w es.isEmpty 9999 (.int .i64 k)
  refine ⟨.bool (decide (k ∈ l)), ?_, bool_holds m _⟩
  rcases run_mapGet h4 h5 h1 h2 k with ⟨h7, h8⟩ | ⟨j, v, h7, h8⟩
  · rw [mget_bk] at h8
    have hn : k ∉ l := fun hm => by rw [if_pos hm] at h8; cases h8
    simp [execOp, e1, e2, Instr.lookup, run_underlying h4, hget, hchk, h7, h6, hn]
  · rw [mget_bk] at h8
    by_cases hm : k ∈ l
    · rw [if_pos hm] at h8; cases h8
      simp [execOp, e1, e2, Instr.lookup, run_underlying h4, hget, hchk, h7, hm]
    · rw [if_neg hm] at h8; cases h8
end lk
theorem ox_makeSet {T id : Nat} {dst ty pos af g} : OpX P ⟨dst, .makeMap T none, ty, pos, af, g⟩ [] [] (.mp id) [(id, .imap (bk []))] [id] := ox_makeMap
theorem ox_insertB {T s id : Nat} {l : List Int} {key x : Operand} {lk : List (Nat × Desc)} {k : Int} {ty pos af g} (h : mpB P T = true) (hk : OpdOk key (.val k) lk) :
    OpX P ⟨none, .insert T (.tmp s) key (.const (.bool true)), ty, pos, af, g⟩ ((s, .mp id) :: (lk ++ [])) [(id, .imap (bk l))] .any [(id, .imap (bk (if k ∈ l then l else l ++ [k])))] [] := by
  rw [← mset_bk]; exact ox_insert h hk OpdOk.raw
theorem ox_updB {T s id : Nat} {l : List Int} {key x : Operand} {lk : List (Nat × Desc)} {k : Int} {ty pos af g} (h : mpB P T = true) (hk : OpdOk key (.val k) lk) :
    OpX P ⟨none, .mapUpdate T (.tmp s) key (.const (.bool true)), ty, pos, af, g⟩ ((s, .mp id) :: (lk ++ [])) [(id, .imap (bk l))] .any [(id, .imap (bk (if k ∈ l then l else l ++ [k])))] [] := by
  have h0 : OpX P ⟨none, .insert T (.tmp s) key (.const (.bool true)), ty, pos, af, g⟩ ((s, .mp id) :: (lk ++ [])) [(id, .imap (bk l))] .any [(id, .imap (bk (if k ∈ l then l else l ++ [k])))] [] := ox_insertB (x := key) h hk
  exact h0
theorem ox_lenSet {T id s : Nat} {l : List Int} {dst ty pos af g} (h : mpB P T = true) (hl : l.length ≤ 9223372036854775807) : OpX P ⟨dst, .call ⟨.builtin .len, #[.tmp s], #[T]⟩, ty, pos, af, g⟩ [(s, .mp id)] [(id, .imap (bk l))] (.val (l.length : Int)) [] [] := by
  refine OpX.pure fun m w0 w a hw hs ho => ?_
  have e1 : a.eval (.tmp s) = .map (some (m.blk id)) := hs (s, .mp id) (by simp)
  obtain ⟨es, clock, h1, h2, h3⟩ := ho (id, .imap (bk l)) (by simp)
  obtain ⟨kt, e, ik, h4, h5⟩ := mpB_inv h
  have hget := MapKept.run_getObj_map (P := P) h1
  have hlen : es.size = l.length := by
    have := congrArg List.length h2
    simpa [bk] using this
  refine ⟨.int .i64 l.length, ?_, int_holds m ⟨by omega, ?_⟩⟩
  · simp [execOp, resolve, invoke, builtin, e1, Builtin.len_, run_underlying h4, hget, goInt, hlen]
  · omega
end
end Go.Gx
