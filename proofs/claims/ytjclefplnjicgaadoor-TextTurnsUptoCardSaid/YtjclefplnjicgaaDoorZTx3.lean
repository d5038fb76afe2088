/- WHAT THE STATEMENTS OF THIS GROUP NEED, part 3: laid together by prune.py out of own texts. -/
import Derived.Test.YtjclefplnjicgaaDoorZTx2
set_option linter.unusedVariables false
set_option linter.unusedSimpArgs false
set_option maxRecDepth 20000
set_option maxHeartbeats 4000000
section
namespace Sp
open Go
theorem same_loop (a b : List Mk.Call) (hab : a.length = b.length) (hl : a.length ≤ 9223372036854775807) (k : Unit → Option Bool) (hk : k () = some true) : ∀ (m i : Nat), i + m = a.length → ∀ f : Nat, m < f →
  mkref1_SameCalls_l1 k f a b (a.length : Int) (i : Int) = some (decide (a.drop i = b.drop i)) := by
 intro m
 induction m with
 | zero =>
  intro i hi f hf
  obtain ⟨f, rfl⟩ : ∃ g, f = g + 1 := ⟨f - 1, by omega⟩
  rw [mkref1_SameCalls_l1, dF (by omega), cF, hk, List.drop_of_length_le (by omega), List.drop_of_length_le (by omega)]
  simp
 | succ m ih =>
  intro i hi f hf
  obtain ⟨f, rfl⟩ : ∃ g, f = g + 1 := ⟨f - 1, by omega⟩
  rw [mkref1_SameCalls_l1, dT (by omega), cT, G_on (by omega), G_on (by omega), ix_drop a i (by omega), ix_drop b i (by omega)]
  by_cases h : ix a (i : Int) = ix b (i : Int)
  ·rw [dT h, nT, cF, G_on (by unfold I; omega), show ((i : Int) + 1) = ((i + 1 : Nat) : Int) from by omega, ih (i + 1) (by omega) f (by omega)]
   simp [h]
  ·rw [dF h, nF, cT]
   simp [h]
theorem same_eq (a b : List Mk.Call) (hl : a.length ≤ 9223372036854775807) : mkref1_SameCalls a b = some (decide (a = b)) := by
 unfold mkref1_SameCalls
 simp only [J]
 by_cases h : a.length = b.length
 ·rw [dT (by omega), nT, cF]
  have := same_loop a b h hl (fun _ => some true) rfl a.length 0 (by omega) (((a.length : Int) - 0).toNat + 1) (by omega)
  rw [show ((0 : Nat) : Int) = 0 from rfl] at this
  rw [this]; simp
 ·rw [dF (by omega), nF, cT]
  congr 1
  exact (dF fun e => h (by rw [e])).symm
theorem parseQ_len : ∀ (qs : List (List UInt8)) (acc : List Mk.Call), (parseQ acc qs).1.length ≤ 8
 | [], acc => by
  unfold parseQ finP
  split
  ·simp
  ·simp only; omega
 | [q], acc => by
  unfold parseQ
  split
  ·unfold finP; split
   ·simp
   ·simp only; omega
  ·simp
 | q :: q' :: qs, acc => by
  rw [parseQ_cons _ _ _ (by simp)]
  split
  ·simp
  ·exact parseQ_len _ _
theorem Cn_off {α : Type} [Inhabited α] {p : Prop} [Decidable p] {k : Option α} (h : ¬ p) : Cn p k = some default := by unfold Cn; rw [if_neg h]
theorem Cn_is {α : Type} [Inhabited α] {p : Prop} [Decidable p] {k : Option α} (h : p) : Cn p k = k := by unfold Cn; rw [if_pos h]
theorem textTells (s : ByteArray) (c : Mk.Call) (h : s.size ≤ 4294967280) : mklaw3_TextTells s c = some true := by
 unfold mklaw3_TextTells
 rw [text_ReadCall_eq s h, obs, mkref1_ReadCall_eq s h, obs, dT (p := (readB s).2 = (readB s).2) rfl, dT (p := (readB s).1 = (readB s).1) rfl, nT, Bool.or_false, cF, text_Parse_eq s h, obs, mkref1_Parse_eq s h, obs]
 have hl := parseQ_len (segs 10 (stb s)) []
 rw [same_eq _ _ (by show (parseQ [] (segs 10 (stb s))).1.length ≤ _; omega), dT (p := (parseB s).2 = (parseB s).2) rfl, dT (p := (parseB s).1 = (parseB s).1) rfl, nT, Cn_is rfl, obs, nT, Bool.or_false, cF, wrongCall_eq, obs]
 by_cases hw : wcall c = 0
 ·have hc := (wcall_ok c).1 hw
  have hl2 : ∀ d ∈ [c, c], CallOk d := by intro d hd; simp at hd; rw [hd]; exact hc
  rw [dT hw, nT, Cn_is rfl, text_Call_eq c hc, obs, Cn_is rfl, mkref1_CallText_eq c hc, obs, dT (p := bts (callL c) = bts (callL c)) rfl, Cn_is ⟨rfl, rfl⟩, text_Print_eq _ hl2 (by simp), obs, Cn_is ⟨rfl, rfl⟩, mkref1_Print_eq _ hl2 (by simp), obs, dT (p := bts (printL [c, c]) = bts (printL [c, c])) rfl]
  rfl
 ·rw [dF hw, nF, Cn_off (by decide), obs, Cn_off (by decide), obs, Cn_off (fun e => absurd e.1 (by decide)), obs, Cn_off (fun e => absurd e.1 (by decide)), obs]
  rfl
theorem itoa_one (d : Nat) (h : d < 10) : Lib.itoa (d : Int) = [UInt8.ofNat (48 + d)] := by
 unfold Lib.itoa
 rw [if_neg (by omega), Int.toNat_natCast, Lib.decDigits, dif_pos h]
theorem itoa_neg (d : Nat) (h : d < 10) (h0 : 0 < d) : Lib.itoa (-(d : Int)) = [45, UInt8.ofNat (48 + d)] := by
 unfold Lib.itoa
 rw [if_pos (by omega), Int.natAbs_neg, Int.natAbs_natCast, Lib.decDigits, dif_pos h]
theorem alive3 : mklaw3_alive = some true := by
 have c1 : CallOk { Kind := 6, Name := 3, Other := 4, N := 0 } := by constructor <;> decide
 have c2 : CallOk { Kind := 5, Name := 0, Other := 0, N := 0 } := by constructor <;> decide
 have c3 : CallOk { Kind := 1, Name := 7, Other := 0, N := -5 } := by constructor <;> decide
 have e1 : (⟨#[115, 119, 97, 112, 32, 51, 32, 52]⟩ : ByteArray) = bts (callL { Kind := 6, Name := 3, Other := 4, N := 0 }) := by
  have i3 : Lib.itoa 3 = [51] := itoa_one 3 (by decide)
  have i4 : Lib.itoa 4 = [52] := itoa_one 4 (by decide)
  show _ = bts (stb wSwap ++ ((32 :: Lib.itoa 3) ++ ((32 :: Lib.itoa 4) ++ [])))
  rw [i3, i4]; rfl
 have e2 : (⟨#[99, 111, 117, 110, 116, 10, 112, 117, 116, 32, 55, 32, 45, 53, 10]⟩ : ByteArray) = bts (printL [{ Kind := 5, Name := 0, Other := 0, N := 0 }, { Kind := 1, Name := 7, Other := 0, N := -5 }]) := by
  have i7 : Lib.itoa 7 = [55] := itoa_one 7 (by decide)
  have i5 : Lib.itoa (-5) = [45, 53] := itoa_neg 5 (by decide) (by decide)
  show _ = bts (((stb wCount ++ []) ++ [10]) ++ (((stb wPut ++ ((32 :: Lib.itoa 7) ++ ((32 :: Lib.itoa (-5)) ++ []))) ++ [10]) ++ []))
  rw [i7, i5]; rfl
 have hl : ∀ d ∈ [({ Kind := 5, Name := 0, Other := 0, N := 0 } : Mk.Call), { Kind := 1, Name := 7, Other := 0, N := -5 }], CallOk d := by
  intro d hd; simp at hd; rcases hd with rfl | rfl <;> assumption
 unfold mklaw3_alive
 rw [text_ReadCall_eq _ (by decide), obs, text_Parse_eq _ (by decide), obs, e1, read_call c1, e2]
 have hp : parseB (bts (printL [{ Kind := 5, Name := 0, Other := 0, N := 0 }, { Kind := 1, Name := 7, Other := 0, N := -5 }])) = ([{ Kind := 5, Name := 0, Other := 0, N := 0 }, { Kind := 1, Name := 7, Other := 0, N := -5 }], 0) := by
  unfold parseB
  rw [stb_bts, parse_print _ hl]; rfl
 rw [hp]
 rw [Cn_is (by decide), text_Call_eq _ c1, obs]
 rw [dT (p := bts (callL { Kind := 6, Name := 3, Other := 4, N := 0 }) = bts (callL { Kind := 6, Name := 3, Other := 4, N := 0 })) rfl, Cn_is (by decide), text_Print_eq _ hl (by simp), obs, dT (p := bts (printL [{ Kind := 5, Name := 0, Other := 0, N := 0 }, { Kind := 1, Name := 7, Other := 0, N := -5 }]) = _) rfl]
 rfl
theorem textBehind (a b : ByteArray) (h : a.size + b.size ≤ 4294967280) : mklaw3_TextBehind a b = some true := by
 unfold mklaw3_TextBehind
 rw [alive3, obs, nT, cF, text_Parse_eq a (by omega), obs, text_Parse_eq b (by omega), obs]
 by_cases ha : (parseB a).2 = 0
 ·by_cases hb : (parseB b).2 = 0
  ·rw [dT ha, dT hb, nT, Bool.or_false, cF, G_on (by omega), text_Parse_eq _ (by rw [ByteArray.size_append]; omega), obs]
   have pa : parseB a = ((parseB a).1, 0) := by rw [← ha]
   have pb : parseB b = ((parseB b).1, 0) := by rw [← hb]
   obtain ⟨ps, a1, a2, a3, a4⟩ := parse_ok _ _ _ (segs_ne 10 _) pa
   obtain ⟨qs, b1, b2, b3, b4⟩ := parse_ok _ _ _ (segs_ne 10 _) pb
   rw [List.nil_append] at a3 b3
   have hx : parseB (a ++ b) = finP ((parseB a).1 ++ (parseB b).1) := by
    show parseQ [] (segs 10 (stb (a ++ b))) = _
    rw [stb_append, segs_append 10 _ _ ps a1, parse_run _ _ _ (segs_ne 10 _) a2, b1, parse_run _ _ _ (by simp) b2, List.nil_append]
    show finP _ = _
    rw [← a3, ← b3]
   have hla : (parseB a).1.length ≤ 8 := a4
   have hlb : (parseB b).1.length ≤ 8 := b4
   rw [hx, G_on (by unfold I; omega)]
   unfold finP
   rw [List.length_append]
   by_cases h8 : 8 < (parseB a).1.length + (parseB b).1.length
   ·rw [dT (by omega), cT, if_pos h8]; rfl
   ·rw [dF (by omega), cF, if_neg h8, dT rfl, cT, G_on (by simp only [List.length_nil]; omega), G_on (by simp only [List.nil_append]; omega), List.nil_append, same_eq _ _ (by rw [List.length_append]; omega), obs, dT (p := (parseB a).1 ++ (parseB b).1 = (parseB a).1 ++ (parseB b).1) rfl]
  ·rw [dF hb, nF, Bool.or_true, cT]
 ·rw [dF ha, nF, Bool.true_or, cT]
theorem tt_run (k : ByteArray → List Mk.Call → Bool → Option Bool) (s : ByteArray) (l : List Mk.Call) (hl : l.length ≤ 9223372036854775806) : ∀ (m i : Nat) (x : Bool) (f : Nat), i + m = l.length → m < f →
  mklaw3_TextTurns_l1 k f s l x l (l.length : Int) (i : Int) = k s l (x && (l.drop i).all fun c => decide (wcall c = 0)) := by
 intro m
 induction m with
 | zero =>
  intro i x f hi hf
  obtain ⟨f, rfl⟩ : ∃ g, f = g + 1 := ⟨f - 1, by omega⟩
  rw [mklaw3_TextTurns_l1, dF (by omega), cF, List.drop_of_length_le (by omega), List.all_nil, Bool.and_true]
 | succ m ih =>
  intro i x f hi hf
  obtain ⟨f, rfl⟩ : ∃ g, f = g + 1 := ⟨f - 1, by omega⟩
  have e : ∃ v, Cn (x = true) (mkref1_WrongCall (ix l (i : Int))) = some v ∧ (x && decide (v = 0)) = (x && decide (wcall (ix l (i : Int)) = 0)) := by
   rw [wrongCall_eq]
   cases x with
   | true => exact ⟨_, Cn_is rfl, rfl⟩
   | false => exact ⟨_, Cn_off (by decide), rfl⟩
  obtain ⟨v, e1, e2⟩ := e
  rw [mklaw3_TextTurns_l1, dT (by omega), cT, G_on (by omega), e1, obs, G_on (by unfold I; omega), e2, show ((i : Int) + 1) = ((i + 1 : Nat) : Int) from by omega, ih (i + 1) _ f (by omega) (by omega), ix_drop l i (by omega), List.all_cons, Bool.and_assoc]
theorem textTurns (s : ByteArray) (l : List Mk.Call) (h : s.size ≤ 4294967280) (hl : l.length ≤ 9223372036854775806) : mklaw3_TextTurns s l = some true := by
 unfold mklaw3_TextTurns
 rw [alive3, obs, nT, cF, J_def]
 refine (tt_run _ s l (by omega) l.length 0 _ _ (by omega) (by omega)).trans ?_
 have hend : (text_Parse s).bind (fun v15 => (Cn (((!decide (v15.2 = (0 : Int)))) = false) (text_Print (v15.1))).bind (fun v16 => some (((!decide (v15.2 = (0 : Int))) || ((decide (v16 = s)) && (decide ((v15.1.length : Int) ≤ (8 : Int)))))))) = some true := by
  rw [text_Parse_eq s h, obs]
  by_cases hp : (parseB s).2 = 0
  ·have pp : parseB s = ((parseB s).1, 0) := by rw [← hp]
   obtain ⟨b1, b2, b3⟩ := print_back pp
   rw [dT hp, nT, Cn_is rfl, text_Print_eq _ b1 (by omega), obs, dT b3, dT (by omega)]
   rfl
  ·rw [dF hp, nF, Cn_off (by decide), obs]
   rfl
 rw [List.drop_zero]
 show J _ _ = _
 rw [J_def]
 cases hall : (decide ((l.length : Int) ≤ 8) && l.all fun c => decide (wcall c = 0)) with
 | false => rw [cF]; exact hend
 | true =>
  rw [cT]
  have h8 : l.length ≤ 8 := by have := of_decide_eq_true (Bool.and_eq_true_iff.1 hall).1; omega
  have hc : ∀ c ∈ l, CallOk c := fun c hm => (wcall_ok c).1 (of_decide_eq_true (List.all_eq_true.1 (Bool.and_eq_true_iff.1 hall).2 c hm))
  have hsz : (printL l).length ≤ 4294967280 := by
   have : ∀ l : List Mk.Call, (∀ c ∈ l, CallOk c) → (printL l).length ≤ 61 * l.length := by
    intro l
    induction l with
    | nil => intro _; simp [printL]
    | cons c l ih =>
     intro h
     have := ih (fun d hd => h d (by simp [hd]))
     have hcs := callL_size (h c (by simp))
     rw [show printL (c :: l) = (callL c ++ [10]) ++ printL l from rfl, List.length_append, List.length_append, List.length_cons]
     simp only [List.length_cons, List.length_nil]; omega
   have := this l hc
   omega
  have hp : parseB (bts (printL l)) = (l, 0) := by
   unfold parseB
   rw [stb_bts, parse_print _ hc]
   unfold finP
   rw [List.nil_append, if_neg (by omega)]
  rw [text_Print_eq l hc (by omega), obs, text_Parse_eq _ (by rw [bts_size]; exact hsz), obs, hp, dT rfl, nT, Cn_is rfl, same_eq _ _ (by omega), obs, dT rfl, nT, Bool.or_false, cF]
  exact hend
end Sp
end
section
namespace Go.Proofs.YtjclefplnjicgaaDoor
open Go.ChangeShapes Go.WideShapes Go.ChangeAt Go.RowKit Go.Gx
theorem lw_star : "*" ++ "errors.errorString" = "*errors.errorString" := by decide
theorem lw_row (u : TypeId) (h : Tryd.prog.typeName? 3 u = some "*errors.errorString") : u = 90 :=
  typeName_ptr_named (nm := "errors.errorString") (by rw [lw_star]; kernel_rfl) (by kernel_rfl) (by decide) u (by rw [lw_star]; exact h)
theorem lw_g0 : Tryd.prog.globalNamed "strconv.ErrSyntax" = some 0 := by kernel_rfl
theorem lw_g1 : Tryd.prog.globalNamed "strconv.ErrRange" = some 1 := by kernel_rfl
theorem lw_g3 : Tryd.prog.globalNamed "internal/strconv.uint64pow10" = some 3 := by kernel_rfl
theorem lw_t0 : (Tryd.prog.globals[0]?).map (·.type) = some 46 := by kernel_rfl
theorem lw_t1 : (Tryd.prog.globals[1]?).map (·.type) = some 46 := by kernel_rfl
theorem lw_t3 : (Tryd.prog.globals[3]?).map (·.type) = some 94 := by kernel_rfl
theorem lw_c1 : Tryd.prog.cellsOf 92 = 1 := by kernel_rfl
theorem lw_c2 : Tryd.prog.cellsOf 9 = 1 := by kernel_rfl
theorem lw_c3 : Tryd.prog.cellsOf 73 = 1 := by kernel_rfl
theorem lw_c4 : Tryd.prog.cellsOf 94 = 20 := by kernel_rfl
def lwList : List (String × DataW Unit) := Rows.textTellsRow.laid
theorem gt_of (W : World) (h : laidMetH Tryd.prog lwList W) (hsh : W.ShapedOpen Tryd.prog) : GT W := by
  have h0 : laidMet Tryd.prog lwList W := h
  have hp := h0.tail.tail
  have hr := h0.tail.tail.tail.tail
  have hs := h0.tail.tail.tail.tail.tail
  obtain ⟨a0, s0, e0, -, -, -⟩ := laid_sentinel hs lw_g0 lw_t0 Tryd.underlying46 lw_row Tryd.underlying90 Tryd.underlying92 rfl rfl Tryd.underlying9 lw_c1 lw_c2
  obtain ⟨a1, s1, e1, -, -, -⟩ := laid_sentinel hr lw_g1 lw_t1 Tryd.underlying46 lw_row Tryd.underlying90 Tryd.underlying92 rfl rfl Tryd.underlying9 lw_c1 lw_c2
  exact ⟨Lib.tabIs_of_head lw_g3 lw_t3 Tryd.underlying94 Tryd.underlying73 lw_c3 lw_c4 hp, Tryd.laysM146.s1_3 W hsh,
    ⟨_, _, show W.cell? ⟨0, 0, none⟩ = _ from by have h0 := World.var?_cell lw_g0 e0 0; simpa using h0⟩, ⟨_, _, show W.cell? ⟨1, 0, none⟩ = _ from by have h0 := World.var?_cell lw_g1 e1 0; simpa using h0⟩⟩
def litV : DataW Unit → List Value
  | .lit (.int k n) => [.int k n]
  | _ => []
def flat1 : DataW Unit → List Value
  | .agg l => l.flatMap litV
  | d => litV d
def flat2 : DataW Unit → List Value
  | .agg l => l.flatMap flat1
  | d => litV d
def putG (g : Nat) (cs : List Value) (h : Array Obj) : Array Obj := h.modify g fun
  | .cells _ t frozen => .cells cs.toArray t frozen
  | o => o
abbrev lwRange : ByteArray := ⟨#[118, 97, 108, 117, 101, 32, 111, 117, 116, 32, 111, 102, 32, 114, 97, 110, 103, 101]⟩
abbrev lwSyntax : ByteArray := ⟨#[105, 110, 118, 97, 108, 105, 100, 32, 115, 121, 110, 116, 97, 120]⟩
noncomputable def lwLow : Nat := (World.holding Tryd.prog default ⟨#[], #[], []⟩).heap.size
noncomputable def lwWorld (os : Os) : World :=
  let w0 := World.holding Tryd.prog os ⟨#[.cells #[.string lwRange] 92, .cells #[.string lwSyntax] 92], #[], []⟩
  { w0 with heap := putG 1 [.iface 90 (.pointer (some ⟨lwLow, 0, none⟩))] (putG 0 [.iface 90 (.pointer (some ⟨lwLow + 1, 0, none⟩))]
    (putG 3 (flat1 Rows.laid_internal_strconv_uint64pow10) (putG 4 (flat1 Rows.laid_unicode_utf8_first) (putG 5 (flat2 Rows.laid_unicode_utf8_acceptRanges)
    (putG 6 (flat1 Rows.laid_math_bits_deBruijn32tab) (putG 7 (flat1 Rows.laid_math_bits_deBruijn64tab) w0.heap)))))) }
theorem lw_met (os : Os) (args : Array Value) : laidMet Tryd.prog lwList ((lwWorld os).forCall (fun _ _ => 0) ⟨#[], args, []⟩).memory :=
  laidMet_of_run' 8 (by kernel_rfl) (by kernel_rfl)
end Go.Proofs.YtjclefplnjicgaaDoor
end
