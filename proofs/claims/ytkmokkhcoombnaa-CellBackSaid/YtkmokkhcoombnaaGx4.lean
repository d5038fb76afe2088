/- The small logic, fourth part: a region that draws its order: one walk of its text serves every order. Nothing here is about one program. -/
import Derived.Test.YtkmokkhcoombnaaGx3
namespace Go.Gx
open Go.RowKit
set_option linter.unusedVariables false
set_option linter.unusedSimpArgs false

/-! ### what many writes, some of them done, answer -/
def lk {δ : Type 1} (S : Nat → Bool) : Nat → List (List (Nat × δ)) → Nat → Option δ
  | _, [], _ => none
  | k, w :: rest, t => (lk S (k + 1) rest t).or (if S k then look w t else none)
def accL {δ : Type 1} (S : Nat → Bool) : Nat → List (List (Nat × δ)) → List (Nat × δ) → List (Nat × δ)
  | _, [], σ => σ
  | k, w :: rest, σ => accL S (k + 1) rest (if S k then w ++ σ else σ)

theorem look_accL {δ : Type 1} (S : Nat → Bool) (t : Nat) : ∀ (ws : List (List (Nat × δ))) (k : Nat) (σ : List (Nat × δ)), look (accL S k ws σ) t = (lk S k ws t).or (look σ t)
  | [], k, σ => by simp [accL, lk]
  | w :: ws, k, σ => by
    simp only [accL, lk, look_accL S t ws]
    cases S k
    · simp
    · simp only [if_true, look_append]
      cases lk S (k + 1) ws t <;> simp
theorem lk_congr {δ : Type 1} {S S' : Nat → Bool} {t : Nat} : ∀ (ws : List (List (Nat × δ))) (k : Nat), (∀ j w, ws[j]? = some w → look w t ≠ none → S (k + j) = S' (k + j)) → lk S k ws t = lk S' k ws t
  | [], k, _ => rfl
  | w :: ws, k, h => by
    have e1 : lk S (k + 1) ws t = lk S' (k + 1) ws t := lk_congr ws (k + 1) (fun j w' hw hne => by have := h (j + 1) w' (by simpa using hw) hne; rwa [show k + (j + 1) = k + 1 + j from by omega] at this)
    have e2 : (if S k then look w t else none) = (if S' k then look w t else none) := by
      cases hl : look w t with
      | none => simp
      | some d => rw [show S k = S' k from h 0 w (by simp) (by simp [hl])]
    simp only [lk, e1, e2]
theorem lk_none {δ : Type 1} {S : Nat → Bool} {t : Nat} (ws : List (List (Nat × δ))) (k : Nat) (h : ∀ j w, ws[j]? = some w → S (k + j) = true → look w t = none) : lk S k ws t = none := by
  induction ws generalizing k with
  | nil => rfl
  | cons w ws ih =>
    simp only [lk]
    rw [ih (k + 1) (fun j w' hw hs => h (j + 1) w' (by simpa using hw) (by rwa [show k + (j + 1) = k + 1 + j from by omega]))]
    cases hs : S k
    · simp
    · simp [h 0 w (by simp) (by simpa using hs)]
theorem lk_last {δ : Type 1} {S : Nat → Bool} {t : Nat} {d : δ} : ∀ (ws : List (List (Nat × δ))) (k i : Nat) (w : List (Nat × δ)), ws[i]? = some w → S (k + i) = true → look w t = some d →
    (∀ j w', i < j → ws[j]? = some w' → S (k + j) = true → look w' t = none) → lk S k ws t = some d
  | [], k, i, w, hi, _, _, _ => by simp at hi
  | v :: ws, k, 0, w, hi, hs, hl, hn => by
    simp only [List.getElem?_cons_zero, Option.some.injEq] at hi
    subst hi
    simp only [lk]
    rw [lk_none ws (k + 1) (fun j w' hw hs' => hn (j + 1) w' (by omega) (by simpa using hw) (by rwa [show k + (j + 1) = k + 1 + j from by omega]))]
    simp only [Nat.add_zero] at hs
    simp [hs, hl]
  | v :: ws, k, i + 1, w, hi, hs, hl, hn => by
    simp only [lk]
    rw [lk_last ws (k + 1) i w (by simpa using hi) (by rwa [show k + 1 + i = k + (i + 1) from by omega]) hl
      (fun j w' hj hw hs' => hn (j + 1) w' (by omega) (by simpa using hw) (by rwa [show k + (j + 1) = k + 1 + j from by omega]))]
    rfl

/-! ### the walk of the text -/
inductive Segs (P : Program) (ops : Array Oper) (n : Nat) : List Oper → St → List (Rd × Wr) → St → Prop
  | nil {σ : St} : Segs P ops n [] σ [] σ
  | cons {o : Oper} {l : List Oper} {r : Rd} {wr : Wr} {σ σ' : St} {segs : List (Rd × Wr)} (h : Step P ops o r wr) (hr : r.ok σ) (hf : fresh σ wr = true) (hn : (wr.s.all fun p => decide (p.1 < n)) = true)
      (k : Segs P ops n l (σ.upd wr) segs σ') : Segs P ops n (o :: l) σ ((r, wr) :: segs) σ'

section
variable {P : Program} {ops : Array Oper} {w0 : B0} {n : Nat}

theorem Ops.of_segs {l : List Oper} {σ σ' : St} {segs : List (Rd × Wr)} {Q : Exit → Act → World → Prop} (h : Segs P ops n l σ segs σ') (k : PT w0 n σ' (Q .normal)) : Ops P ops w0 n l σ Q := by
  induction h with
  | nil => exact Ops.nil k
  | cons h hr hf hn _ ih => exact Ops.cons h hr hf hn (ih k)
theorem PT.plain {id : Nat} {l : List Oper} {σ σ' : St} {segs : List (Rd × Wr)} {Q : Exit → Act → World → Prop} (h : Segs P l.toArray n l σ segs σ') (k : PT w0 n σ' (Q .normal)) :
    PT w0 n σ ((Code.region id l.toArray false).wp P Q) := PT.region (Ops.of_segs h k)

theorem Segs.step {l : List Oper} {σ σ' : St} {segs : List (Rd × Wr)} (h : Segs P ops n l σ segs σ') : ∀ (i : Nat) (r : Rd) (wr : Wr), segs[i]? = some (r, wr) → ∃ o, l[i]? = some o ∧ Step P ops o r wr ∧ (wr.s.all fun p => decide (p.1 < n)) = true := by
  induction h with
  | nil => intro i r wr h; simp at h
  | cons h hr hf hn _ ih =>
    intro i r wr hi
    cases i with
    | zero => simp at hi; obtain ⟨rfl, rfl⟩ := hi; exact ⟨_, rfl, h, hn⟩
    | succ i => simpa using ih i r wr (by simpa using hi)
theorem Segs.length {l : List Oper} {σ σ' : St} {segs : List (Rd × Wr)} (h : Segs P ops n l σ segs σ') : segs.length = l.length := by
  induction h with
  | nil => rfl
  | cons h hr hf hn _ ih => simp [ih]
def wsS (segs : List (Rd × Wr)) : List (List (Nat × Desc)) := segs.map (·.2.s)
def wsO (segs : List (Rd × Wr)) : List (List (Nat × ODesc)) := segs.map (·.2.o)
theorem Segs.reads {l : List Oper} {σ σ' : St} {segs : List (Rd × Wr)} (h : Segs P ops n l σ segs σ') (off : Nat) : ∀ (i : Nat) (r : Rd) (wr : Wr), segs[i]? = some (r, wr) →
    r.ok ⟨accL (fun j => decide (j < off + i)) off (wsS segs) σ.s, accL (fun j => decide (j < off + i)) off (wsO segs) σ.o⟩ := by
  induction h generalizing off with
  | nil => intro i r wr h; simp at h
  | @cons o l r0 wr0 σ σ' segs h hr hf hn _ ih =>
    intro i r wr hi
    cases i with
    | zero =>
      simp at hi; obtain ⟨rfl, rfl⟩ := hi
      have e : ∀ {δ : Type 1} (ws : List (List (Nat × δ))) (k : Nat) (τ : List (Nat × δ)), off ≤ k → accL (fun j => decide (j < off + 0)) k ws τ = τ := by
        intro δ ws
        induction ws with
        | nil => intro k τ _; rfl
        | cons w ws ih => intro k τ hk; simp only [accL]; rw [if_neg (by simp; omega)]; exact ih _ _ (by omega)
      rw [e _ _ _ (Nat.le_refl _), e _ _ _ (Nat.le_refl _)]
      exact hr
    | succ i =>
      have := ih (off + 1) i r wr (by simpa using hi)
      simp only [wsS, wsO, List.map_cons, accL]
      rw [if_pos (by simp), if_pos (by simp)]
      rw [show off + (i + 1) = off + 1 + i from by omega]
      exact this
theorem Segs.final {l : List Oper} {σ σ' : St} {segs : List (Rd × Wr)} (h : Segs P ops n l σ segs σ') (S : Nat → Bool) (off : Nat) (hS : ∀ j, j < segs.length → S (off + j) = true) :
    σ' = ⟨accL S off (wsS segs) σ.s, accL S off (wsO segs) σ.o⟩ := by
  induction h generalizing off with
  | nil => rfl
  | @cons o l r0 wr0 σ σ' segs h hr hf hn _ ih =>
    simp only [wsS, wsO, List.map_cons, accL]
    have h0 := hS 0 (by simp)
    simp only [Nat.add_zero] at h0
    rw [if_pos h0, if_pos h0]
    exact ih (off + 1) (fun j hj => by have := hS (j + 1) (by simpa using hj); rwa [show off + (j + 1) = off + 1 + j from by omega] at this)

/-! ### who must be apart -/
abbrev KL := List Nat × List Nat × List Nat × List Nat
def kOf (p : Rd × Wr) : KL := (keys p.1.s, keys p.2.s, keys p.1.o, keys p.2.o)
def hits (a b : List Nat) : Bool := a.any fun x => b.contains x
/-- what x writes, y reads or writes; or the other way -/
def conf (x y : KL) : Bool := hits x.2.1 y.1 || hits x.2.1 y.2.1 || hits y.2.1 x.1 || hits x.2.2.2 y.2.2.1 || hits x.2.2.2 y.2.2.2 || hits y.2.2.2 x.2.2.1

/-- each i on j's list is one of j's own edges, or on an edge's list -/
def certAt (pre : List (List Nat)) (o : Oper) (js : List Nat) : Bool :=
  js.all fun i => o.after.any fun e => Region.binds .any e && (e.on == i || (pre.getD e.on []).contains i)
def certOK (l : List Oper) (pre : List (List Nat)) : Bool := (l.zip pre).all fun p => certAt pre p.1 p.2
def backOK (l : List Oper) : Bool := l.zipIdx.all fun p => p.1.after.all fun e => !Region.binds .any e || decide (e.on < p.2)
def apartOK (ks : List KL) (pre : List (List Nat)) : Bool :=
  (ks.zip pre).zipIdx.all fun q => (ks.take q.2).zipIdx.all fun p => !conf p.1 q.1.1 || q.1.2.contains p.2
/-- where an object becomes another one: nobody speaks of the old one, but who waits -/
def freshAll (segs : List (Rd × Wr)) (pre : List (List Nat)) (σ : St) : Bool :=
  segs.zipIdx.all fun p => match p.1.2.fr with
    | [] => true
    | fr => freshS (keys p.1.2.s) fr σ.s && freshO (keys p.1.2.o) fr σ.o && fr.all (keys p.1.2.o).contains &&
      (segs.zipIdx.all fun q => q.2 == p.2 || (pre.getD q.2 []).contains p.2 || (freshS (keys p.1.2.s) fr q.1.2.s && freshO (keys p.1.2.o) fr q.1.2.o))
def drawOK (l : List Oper) (ks : List KL) (pre : List (List Nat)) : Bool := certOK l pre && backOK l && apartOK ks pre && pre.length == l.length && ks.length == l.length

theorem mem_accL {δ : Type 1} (S : Nat → Bool) {x : Nat × δ} : ∀ (ws : List (List (Nat × δ))) (k : Nat) (σ : List (Nat × δ)), x ∈ accL S k ws σ → x ∈ σ ∨ ∃ j w, ws[j]? = some w ∧ S (k + j) = true ∧ x ∈ w
  | [], k, σ, h => .inl h
  | w :: ws, k, σ, h => by
    simp only [accL] at h
    rcases mem_accL S ws (k + 1) _ h with h | ⟨j, w', h1, h2, h3⟩
    · cases hs : S k with
      | false => rw [hs] at h; exact .inl h
      | true =>
        rw [hs] at h
        simp only [if_true] at h
        rcases List.mem_append.1 h with h | h
        · exact .inr ⟨0, w, by simp, by simpa using hs, h⟩
        · exact .inl h
    · exact .inr ⟨j + 1, w', by simpa using h1, by rwa [show k + (j + 1) = k + 1 + j from by omega], h3⟩

section draw
variable {l : List Oper} {segs : List (Rd × Wr)} {pre : List (List Nat)} {σ σ' : St}

def Lst (b : Array Bool) (i : Nat) : Bool := b.getD i false

structure Good (l : List Oper) (b : Array Bool) : Prop where
  size : b.size = l.length
  closed : ∀ j o, l[j]? = some o → Lst b j = true → ∀ e ∈ o.after, Region.binds .any e = true → Lst b e.on = true

theorem cert_reach {b : Array Bool} (hc : certOK l pre = true) (hb : backOK l = true) (hlen : pre.length = l.length) : ∀ (j : Nat) (o : Oper), l[j]? = some o →
    (∀ e ∈ o.after, Region.binds .any e = true → Lst b e.on = true) → (∀ j' o', j' < j → l[j']? = some o' → Lst b j' = true → ∀ e ∈ o'.after, Region.binds .any e = true → Lst b e.on = true) →
    ∀ i, (pre.getD j []).contains i = true → Lst b i = true := by
  intro j
  induction j using Nat.strongRecOn with
  | _ j ih =>
    intro o ho hall hcl i hi
    have hjl : j < l.length := (List.getElem?_eq_some_iff.1 ho).1
    have hp : pre[j]? = some (pre.getD j []) := by simp [List.getD_eq_getElem?_getD, List.getElem?_eq_getElem (show j < pre.length by omega)]
    have hz : (o, pre.getD j []) ∈ l.zip pre := List.mem_of_getElem? (i := j) (by rw [List.getElem?_zip_eq_some]; exact ⟨ho, hp⟩)
    have h1 := (List.all_eq_true.1 hc) _ hz
    have h2 := (List.all_eq_true.1 h1) i (by simpa using hi)
    obtain ⟨e, he, h3⟩ := Array.any_eq_true'.1 h2
    simp only [Bool.and_eq_true, Bool.or_eq_true, beq_iff_eq] at h3
    obtain ⟨hbind, h3⟩ := h3
    have hon := hall e he hbind
    rcases h3 with h3 | h3
    · rw [← h3]; exact hon
    · have hlt : e.on < j := by
        have hm : (o, j) ∈ l.zipIdx := by rw [List.mem_zipIdx_iff_getElem?]; exact ho
        have h5 := (List.all_eq_true.1 hb) _ hm
        have h6 := (Array.all_eq_true_iff_forall_mem.1 h5) e he
        simp only [hbind, Bool.not_true, Bool.false_or, decide_eq_true_eq] at h6
        exact h6
      have ho' : l[e.on]? = some l[e.on] := List.getElem?_eq_getElem (by omega)
      exact ih e.on hlt _ ho' (fun e' he' hb' => hcl e.on _ hlt ho' hon e' he' hb') (fun j' o' hj' => hcl j' o' (by omega)) i h3

theorem Segs.at {l : List Oper} (h : Segs P ops n l σ segs σ') {j : Nat} (hj : j < l.length) : ∃ r wr, segs[j]? = some (r, wr) := by
  have := h.length
  exact ⟨_, _, List.getElem?_eq_getElem (by omega)⟩

theorem look_keys {δ : Type 1} {w : List (Nat × δ)} {t : Nat} (h : look w t ≠ none) : (keys w).contains t = true := by
  cases hl : look w t with
  | none => exact absurd hl h
  | some d => have := look_mem hl; simp [keys]; exact ⟨d, this⟩
theorem hits_false {a b : List Nat} (h : hits a b = false) {t : Nat} (hb : b.contains t = true) : a.contains t = false := by
  cases ha : a.contains t with
  | false => rfl
  | true =>
    have : hits a b = true := List.any_eq_true.2 ⟨t, by simpa using ha, hb⟩
    rw [h] at this; cases this

theorem hits_comm {a b : List Nat} (h : hits a b = false) : hits b a = false := by
  cases hb : hits b a with
  | false => rfl
  | true =>
    obtain ⟨t, h1, h2⟩ := List.any_eq_true.1 hb
    have := hits_false h (t := t) (by simpa using h1)
    rw [this] at h2; cases h2

/-- who may be taken now is apart from whoever is taken out of turn -/
theorem apart_of {b : Array Bool} (hg : Good l b) {ks : List KL} (hok : drawOK l ks pre = true) {i : Nat} {oi : Oper} (hi : l[i]? = some oi) (hun : Lst b i = false)
    (hall : ∀ e ∈ oi.after, Region.binds .any e = true → Lst b e.on = true) :
    (∀ j kj ki, j < i → Lst b j = false → ks[j]? = some kj → ks[i]? = some ki → conf kj ki = false) ∧
    (∀ j kj ki, i < j → Lst b j = true → ks[j]? = some kj → ks[i]? = some ki → conf ki kj = false) := by
  simp only [drawOK, Bool.and_eq_true, beq_iff_eq] at hok
  obtain ⟨⟨⟨⟨hc, hb⟩, hap⟩, hpl⟩, hkl⟩ := hok
  have hcl : ∀ j' o', l[j']? = some o' → Lst b j' = true → ∀ e ∈ o'.after, Region.binds .any e = true → Lst b e.on = true := hg.closed
  have key : ∀ (i j : Nat) (ki kj : KL), i < j → ks[i]? = some ki → ks[j]? = some kj → conf ki kj = true → (pre.getD j []).contains i = true := by
    intro i j ki kj hij hi hj hcf
    have hjl : j < ks.length := (List.getElem?_eq_some_iff.1 hj).1
    have hp : pre[j]? = some (pre.getD j []) := by simp [List.getD_eq_getElem?_getD, List.getElem?_eq_getElem (show j < pre.length by omega)]
    have hm : ((kj, pre.getD j []), j) ∈ (ks.zip pre).zipIdx := by
      rw [List.mem_zipIdx_iff_getElem?, List.getElem?_zip_eq_some]; exact ⟨hj, hp⟩
    have h1 := (List.all_eq_true.1 hap) _ hm
    have hm2 : (ki, i) ∈ (ks.take j).zipIdx := by
      rw [List.mem_zipIdx_iff_getElem?, List.getElem?_take_of_lt hij]; exact hi
    have h2 := (List.all_eq_true.1 h1) _ hm2
    simp only [hcf, Bool.not_true, Bool.false_or] at h2
    exact h2
  constructor
  · intro j kj ki hji hj hkj hki
    cases hcf : conf kj ki with
    | false => rfl
    | true =>
      have := cert_reach (b := b) hc hb hpl i oi hi hall (fun j' o' _ => hcl j' o') j (key j i kj ki hji hkj hki hcf)
      rw [hj] at this; cases this
  · intro j kj ki hij hj hkj hki
    cases hcf : conf ki kj with
    | false => rfl
    | true =>
      have hjl : j < l.length := by have := (List.getElem?_eq_some_iff.1 hkj).1; omega
      have hlj : l[j]? = some l[j] := List.getElem?_eq_getElem hjl
      have := cert_reach (b := b) hc hb hpl j _ hlj (fun e he hb' => hcl j _ hlj hj e he hb') (fun j' o' _ => hcl j' o') i (key i j ki kj hij hki hkj hcf)
      rw [hun] at this; cases this

theorem kOf_at {ks : List KL} (hk : segs.map kOf = ks) {j : Nat} {p : Rd × Wr} (h : segs[j]? = some p) : ks[j]? = some (kOf p) := by
  rw [← hk]; simp [h]
theorem wsS_at {j : Nat} {w : List (Nat × Desc)} (h : (wsS segs)[j]? = some w) : ∃ p, segs[j]? = some p ∧ p.2.s = w := by
  simpa [wsS] using h
theorem wsO_at {j : Nat} {w : List (Nat × ODesc)} (h : (wsO segs)[j]? = some w) : ∃ p, segs[j]? = some p ∧ p.2.o = w := by
  simpa [wsO] using h

/-- what is read now is what the text's walk reads -/
theorem reads_same {δ : Type 1} {ws : List (List (Nat × δ))} {τ : List (Nat × δ)} {b : Array Bool} {i : Nat} {rs : List (Nat × δ)}
    (h1 : ∀ j w, ws[j]? = some w → j < i → Lst b j = false → hits (keys w) (keys rs) = false) (h2 : ∀ j w, ws[j]? = some w → i < j → Lst b j = true → hits (keys w) (keys rs) = false)
    (hun : Lst b i = false) (h : OkL (accL (fun j => decide (j < 0 + i)) 0 ws τ) rs) : OkL (accL (Lst b) 0 ws τ) rs := by
  refine OkL.of_mem fun p hp => ?_
  have := h.mem p hp
  rw [look_accL] at this ⊢
  rw [← this]
  congr 1
  have hpk : (keys rs).contains p.1 = true := by simp [keys]; exact ⟨p.2, hp⟩
  refine lk_congr ws 0 fun j w hw hne => ?_
  have hk := look_keys hne
  simp only [Nat.zero_add]
  rcases Nat.lt_trichotomy j i with hj | hj | hj
  · cases hb : Lst b j with
    | true => simp [hj]
    | false => have := hits_false (h1 j w hw hj hb) hpk; rw [hk] at this; cases this
  · subst hj; rw [hun]; simp
  · cases hb : Lst b j with
    | false => simp; omega
    | true => have := hits_false (h2 j w hw hj hb) hpk; rw [hk] at this; cases this

/-- what is answered behind the step -/
theorem upd_same {δ : Type 1} {ws : List (List (Nat × δ))} {τ : List (Nat × δ)} {b : Array Bool} {i : Nat} {wi : List (Nat × δ)} (hwi : ws[i]? = some wi) (hib : i < b.size)
    (h2 : ∀ j w, ws[j]? = some w → i < j → Lst b j = true → hits (keys w) (keys wi) = false) (hun : Lst b i = false) (t : Nat) :
    look (accL (Lst (b.setIfInBounds i true)) 0 ws τ) t = look (wi ++ accL (Lst b) 0 ws τ) t := by
  have hset : ∀ j, j ≠ i → Lst (b.setIfInBounds i true) j = Lst b j := fun j hj => by
    simp [Lst, Array.getD_eq_getD_getElem?, Array.getElem?_setIfInBounds, Ne.symm hj]
  have hsi : Lst (b.setIfInBounds i true) i = true := by simp [Lst, Array.getD_eq_getD_getElem?, hib]
  rw [look_append, look_accL, look_accL]
  cases hl : look wi t with
  | some d =>
    rw [lk_last ws 0 i wi hwi (by simpa using hsi) hl (fun j w' hj hw hs => ?_)]
    · simp
    · simp only [Nat.zero_add] at hs
      rw [hset j (by omega)] at hs
      cases hw' : look w' t with
      | none => rfl
      | some d' =>
        have hk := look_keys (w := w') (t := t) (by simp [hw'])
        have := hits_false (h2 j w' hw hj hs) (look_keys (w := wi) (t := t) (by simp [hl]))
        rw [hk] at this; cases this
  | none =>
    simp only [Option.none_or]
    congr 1
    refine lk_congr ws 0 fun j w hw hne => ?_
    simp only [Nat.zero_add]
    by_cases hj : j = i
    · subst hj; rw [hwi] at hw; cases hw; exact absurd hl hne
    · exact hset j hj

theorem WOK.drew {w0 : B0} {w : World} {m : M} (h : WOK w0 m w) : WOK w0 m { w with drawn := w.drawn + 1 } := ⟨h.below.drew, h.old, h.on, h.own, h.apart⟩
theorem Holds.drew {w0 : B0} {n : Nat} {σ : St} {a : Act} {w : World} (h : Holds w0 n σ a w) : Holds w0 n σ a { w with drawn := w.drawn + 1 } := by
  obtain ⟨m, h1, h2, h3, h4, h5⟩ := h
  refine ⟨m, h1.drew, h2, h3, h4, fun id d e => ?_⟩
  have := h5 id d e
  cases d <;> exact this

theorem fresh_at {S : Nat → Bool} (hf : freshAll segs pre σ = true) {i : Nat} {r : Rd} {wr : Wr} (hi : segs[i]? = some (r, wr)) (hS : ∀ j, S j = true → j ≠ i ∧ (pre.getD j []).contains i = false) :
    fresh ⟨accL S 0 (wsS segs) σ.s, accL S 0 (wsO segs) σ.o⟩ wr = true := by
  unfold fresh
  split
  · rfl
  · rename_i fr hfr
    have hm : ((r, wr), i) ∈ segs.zipIdx := by rw [List.mem_zipIdx_iff_getElem?]; exact hi
    have h1 := (List.all_eq_true.1 hf) _ hm
    have h1' : (freshS (keys wr.s) wr.fr σ.s && freshO (keys wr.o) wr.fr σ.o && wr.fr.all (keys wr.o).contains &&
      (segs.zipIdx.all fun q => q.2 == i || (pre.getD q.2 []).contains i || (freshS (keys wr.s) wr.fr q.1.2.s && freshO (keys wr.o) wr.fr q.1.2.o))) = true := by
      dsimp only at h1
      split at h1
      · rename_i he; exact absurd he hfr
      · exact h1
    simp only [Bool.and_eq_true] at h1' ⊢
    obtain ⟨⟨⟨a1, a2⟩, a3⟩, a4⟩ := h1'
    have hq : ∀ j p, segs[j]? = some p → S j = true → freshS (keys wr.s) wr.fr p.2.s = true ∧ freshO (keys wr.o) wr.fr p.2.o = true := by
      intro j p hp hs
      have hm2 : (p, j) ∈ segs.zipIdx := by rw [List.mem_zipIdx_iff_getElem?]; exact hp
      have h2 := (List.all_eq_true.1 a4) _ hm2
      obtain ⟨h3, h4⟩ := hS j hs
      have h3' : (j == i) = false := by simpa using h3
      simp only [h3', h4, Bool.false_or, Bool.and_eq_true] at h2
      exact h2
    refine ⟨⟨freshS_l ?_, freshO_l ?_⟩, a3⟩
    · refine List.all_eq_true.2 fun x hx => ?_
      rcases mem_accL S _ 0 _ hx with h | ⟨j, w, h5, h6, h7⟩
      · exact (List.all_eq_true.1 a1) x h
      · obtain ⟨p, hp, rfl⟩ := wsS_at h5
        exact (List.all_eq_true.1 (hq j p hp (by simpa using h6)).1) x h7
    · refine List.all_eq_true.2 fun x hx => ?_
      rcases mem_accL S _ 0 _ hx with h | ⟨j, w, h5, h6, h7⟩
      · exact (List.all_eq_true.1 a2) x h
      · obtain ⟨p, hp, rfl⟩ := wsO_at h5
        exact (List.all_eq_true.1 (hq j p hp (by simpa using h6)).2) x h7

theorem wpOp_eq {Q : Exit → Act → World → Prop} {i : Nat} {o : Oper} (h : ops[i]? = some o) (K : Act → World → Prop) (a : Act) (w : World) : wpOp P ops Q i K a w = opRun P ops Q o K a w := by
  unfold wpOp opRun; rw [h]

def unl (b : Array Bool) : Nat := b.toList.countP fun x => !x

theorem unl_set {b : Array Bool} {i : Nat} (h : i < b.size) (hun : Lst b i = false) : unl (b.setIfInBounds i true) + 1 = unl b := by
  have hb : b.toList[i]'(by simpa using h) = false := by
    have : b[i]? = some b[i] := Array.getElem?_eq_getElem h
    simpa [Lst, Array.getD_eq_getD_getElem?, this] using hun
  have h1 : b.toList = b.toList.take i ++ false :: b.toList.drop (i + 1) := by
    rw [← hb, List.getElem_cons_drop, List.take_append_drop]
  have h2 : (b.setIfInBounds i true).toList = b.toList.take i ++ true :: b.toList.drop (i + 1) := by
    rw [Array.toList_setIfInBounds, List.set_eq_take_append_cons_drop, if_pos (by simpa using h)]
  unfold unl
  rw [h2]
  conv => rhs; rw [h1]
  simp [List.countP_append, List.countP_cons]
  omega

theorem PT.draw {id : Nat} {Q : Exit → Act → World → Prop} (hP : P.follows .mixedOrders = true) (h : Segs P l.toArray n l σ segs σ') (ks : List KL) (pre : List (List Nat)) (hk : segs.map kOf = ks) (hok : drawOK l ks pre = true)
    (hf : freshAll segs pre σ = true) (k : PT w0 n σ' (Q .normal)) : PT w0 n σ ((Code.region id l.toArray true).wp P Q) := by
  have hlen := h.length
  have hok' := hok
  simp only [drawOK, Bool.and_eq_true, beq_iff_eq] at hok'
  obtain ⟨⟨⟨⟨hcert, hback⟩, _⟩, hpl⟩, hkl⟩ := hok'
  have key : ∀ (fuel : Nat) (b : Array Bool) (a : Act) (w : World), Good l b → unl b = fuel → Holds w0 n ⟨accL (Lst b) 0 (wsS segs) σ.s, accL (Lst b) 0 (wsO segs) σ.o⟩ a w →
      wpAny P .any l.toArray Q fuel b a w := by
    intro fuel
    induction fuel with
    | zero =>
      intro b a w hg hu ha
      have hall : ∀ j, j < b.size → Lst b j = true := by
        intro j hj
        have h0 : b.toList.countP (fun x => !x) = 0 := hu
        rw [List.countP_eq_zero] at h0
        have := h0 b[j] (by simp)
        simpa [Lst, Array.getD_eq_getD_getElem?, Array.getElem?_eq_getElem hj] using this
      refine ⟨?_, ?_⟩
      · unfold Region.ready
        rw [List.filter_eq_nil_iff]
        intro j hj
        have hjs : j < b.size := by have := hg.size; simp at hj; omega
        have := hall j hjs
        simp [Lst, Array.getD_eq_getD_getElem?, Array.getElem?_eq_getElem hjs] at this
        simp [Array.getD_eq_getD_getElem?, Array.getElem?_eq_getElem hjs, this]
      · have e := h.final (Lst b) 0 (fun j hj => by simpa using hall j (by have := hg.size; omega))
        exact k a w (by rw [e]; exact ha)
    | succ fuel ih =>
      intro b a w hg hu ha
      refine ⟨fun hr => ?_, fun i hi => ?_⟩
      · -- nothing is ready: all are done
        exfalso
        have hne : ∃ j, j < b.size ∧ Lst b j = false := by
          have h0 : 0 < b.toList.countP (fun x => !x) := by unfold unl at hu; omega
          rw [List.countP_pos_iff] at h0
          obtain ⟨x, hx, hx'⟩ := h0
          obtain ⟨j, hj, rfl⟩ := List.getElem_of_mem hx
          refine ⟨j, by simpa using hj, ?_⟩
          have hj' : j < b.size := by simpa using hj
          simpa [Lst, Array.getD_eq_getD_getElem?, Array.getElem?_eq_getElem hj'] using hx'
        have hmin : ∀ j, j < b.size → Lst b j = false → False := by
          intro j
          induction j using Nat.strongRecOn with
          | _ j ihj =>
            intro hj hjf
            have hjl : j < l.length := by have := hg.size; omega
            have hmem : j ∈ Region.ready .any l.toArray b := by
              rw [mem_ready]
              have hj2 : b[j] = false := by simpa [Lst, Array.getD_eq_getD_getElem?, Array.getElem?_eq_getElem hj] using hjf
              refine ⟨by simp [Array.getD_eq_getD_getElem?, Array.getElem?_eq_getElem hj, hj2], l[j], by simp [List.getElem?_eq_getElem hjl], fun e he hb => ?_⟩
              have hm : (l[j], j) ∈ l.zipIdx := by rw [List.mem_zipIdx_iff_getElem?]; exact List.getElem?_eq_getElem hjl
              have h5 := (List.all_eq_true.1 hback) _ hm
              have h6 := (Array.all_eq_true_iff_forall_mem.1 h5) e he
              simp only [hb, Bool.not_true, Bool.false_or, decide_eq_true_eq] at h6
              cases hbe : Lst b e.on with
              | true => exact hbe
              | false => exact (ihj e.on h6 (by omega) hbe).elim
            rw [hr] at hmem; cases hmem
        obtain ⟨j, h1, h2⟩ := hne
        exact hmin j h1 h2
      · obtain ⟨hjun, o, ho, hall⟩ := mem_ready.1 hi
        have hol : l[i]? = some o := by simpa using ho
        have hil : i < l.length := (List.getElem?_eq_some_iff.1 hol).1
        have hib : i < b.size := by have := hg.size; omega
        have hun : Lst b i = false := by simpa [Lst, Array.getD_eq_getD_getElem?, Array.getElem?_eq_getElem hib] using hjun
        have hall' : ∀ e ∈ o.after, Region.binds .any e = true → Lst b e.on = true := hall
        obtain ⟨r, wr, hs⟩ := h.at hil
        obtain ⟨o', ho', hstep, hslots⟩ := h.step i r wr hs
        rw [hol] at ho'; cases ho'
        obtain ⟨ap1, ap2⟩ := apart_of hg hok hol hun hall'
        have c1 : ∀ j p, segs[j]? = some p → j < i → Lst b j = false → conf (kOf p) (kOf (r, wr)) = false := fun j p hp hj hb => ap1 j _ _ hj hb (kOf_at hk hp) (kOf_at hk hs)
        have c2 : ∀ j p, segs[j]? = some p → i < j → Lst b j = true → conf (kOf (r, wr)) (kOf p) = false := fun j p hp hj hb => ap2 j _ _ hj hb (kOf_at hk hp) (kOf_at hk hs)
        simp only [conf, kOf, Bool.or_eq_false_iff] at c1 c2
        have hreads := h.reads 0 i r wr hs
        have rd : r.ok ⟨accL (Lst b) 0 (wsS segs) σ.s, accL (Lst b) 0 (wsO segs) σ.o⟩ := by
          refine ⟨reads_same (fun j w hw hj hb => ?_) (fun j w hw hj hb => ?_) hun hreads.s, reads_same (fun j w hw hj hb => ?_) (fun j w hw hj hb => ?_) hun hreads.o⟩
          · obtain ⟨p, hp, rfl⟩ := wsS_at hw; exact (c1 j p hp hj hb).1.1.1.1.1
          · obtain ⟨p, hp, rfl⟩ := wsS_at hw; exact (c2 j p hp hj hb).1.1.1.2
          · obtain ⟨p, hp, rfl⟩ := wsO_at hw; exact (c1 j p hp hj hb).1.1.2
          · obtain ⟨p, hp, rfl⟩ := wsO_at hw; exact (c2 j p hp hj hb).2
        have hfr : fresh ⟨accL (Lst b) 0 (wsS segs) σ.s, accL (Lst b) 0 (wsO segs) σ.o⟩ wr = true := by
          refine fresh_at hf hs fun j hj => ⟨fun e => (by subst e; rw [hun] at hj; cases hj), ?_⟩
          cases hpc : (pre.getD j []).contains i with
          | false => rfl
          | true =>
            have hjl : j < l.length := by
              rcases Nat.lt_or_ge j l.length with h | h
              · exact h
              · simp [List.getD_eq_getElem?_getD, List.getElem?_eq_none (show pre.length ≤ j by omega)] at hpc
            have hlj : l[j]? = some l[j] := List.getElem?_eq_getElem hjl
            have := cert_reach (b := b) hcert hback hpl j _ hlj (fun e he hb' => hg.closed j _ hlj hj e he hb') (fun j' o' _ => hg.closed j' o') i hpc
            rw [hun] at this; cases this
        rw [wpOp_eq ho]
        refine hstep w0 n _ a w _ Q rd hfr hslots ha fun a' w' ha' => ?_
        have hsz : (b.setIfInBounds i true).size = l.length := by simp [hg.size]
        refine ih _ a' w' ⟨hsz, fun j oj hoj hjt e he hbe => ?_⟩ (by have := unl_set hib hun; omega) ?_
        · have hset : ∀ j, Lst b j = true → Lst (b.setIfInBounds i true) j = true := fun j hj => by
            by_cases hji : j = i
            · subst hji; simp [Lst, Array.getD_eq_getD_getElem?, hib]
            · have : Lst (b.setIfInBounds i true) j = Lst b j := by simp [Lst, Array.getD_eq_getD_getElem?, Array.getElem?_setIfInBounds, Ne.symm hji]
              rw [this]; exact hj
          by_cases hji : j = i
          · subst hji; rw [hol] at hoj; cases hoj; exact hset _ (hall' e he hbe)
          · have : Lst (b.setIfInBounds i true) j = Lst b j := by simp [Lst, Array.getD_eq_getD_getElem?, Array.getElem?_setIfInBounds, Ne.symm hji]
            rw [this] at hjt
            exact hset _ (hg.closed j oj hoj hjt e he hbe)
        · have us : ∀ t, look (accL (Lst (b.setIfInBounds i true)) 0 (wsS segs) σ.s) t = look (wr.s ++ accL (Lst b) 0 (wsS segs) σ.s) t :=
            upd_same (by simp [wsS, hs]) hib (fun j w hw hj hb => by obtain ⟨p, hp, rfl⟩ := wsS_at hw; have h9 := (c2 j p hp hj hb).1.1.1.1.2; exact hits_comm h9) hun
          have uo : ∀ t, look (accL (Lst (b.setIfInBounds i true)) 0 (wsO segs) σ.o) t = look (wr.o ++ accL (Lst b) 0 (wsO segs) σ.o) t :=
            upd_same (by simp [wsO, hs]) hib (fun j w hw hj hb => by obtain ⟨p, hp, rfl⟩ := wsO_at hw; have h9 := (c2 j p hp hj hb).1.2; exact hits_comm h9) hun
          exact ha'.congr (fun t d e => by rw [us] at e; exact e) (fun t d e => by rw [uo] at e; exact e)
  intro a w ha
  refine wp_region_any hP ?_
  have hrep : ∀ j, Lst (Array.replicate l.toArray.size false) j = false := fun j => by
    simp only [Lst, Array.getD_eq_getD_getElem?, Array.getElem?_replicate]
    split <;> rfl
  have hsize : l.toArray.size = unl (Array.replicate l.toArray.size false) := by simp [unl, List.countP_replicate]
  have := key (unl (Array.replicate l.toArray.size false)) (Array.replicate l.toArray.size false) a { w with drawn := w.drawn + 1 } ⟨by simp, fun j o _ hj => by rw [hrep] at hj; cases hj⟩ rfl (by
    have e : ∀ {δ : Type 1} (ws : List (List (Nat × δ))) (kk : Nat) (τ : List (Nat × δ)), accL (Lst (Array.replicate l.toArray.size false)) kk ws τ = τ := by
      intro δ ws
      induction ws with
      | nil => intro kk τ; rfl
      | cons w ws ih => intro kk τ; simp only [accL, hrep]; exact ih _ _
    rw [e, e]
    exact ha.drew)
  rw [← hsize] at this
  exact this
end draw
end
end Go.Gx
