/- WHAT FUNCTIONS OF THE PROGRAM ANSWER, in plain Lean: printed by gen3.py. -/
import Derived.Test.YtkmokkhcoombnaaSpCell
import Derived.Test.YtkmokkhcoombnaaSpWire
namespace Sp
set_option linter.unusedVariables false
def mkref1_SameStore_l1 (k4 : Mk.Store → Mk.Store → Option Bool) : Nat → Int → Int → Mk.Store → Mk.Store → Option Bool
  | 0, _, _, _, _ => none
  | m5 + 1, x41_m5, x42_m5, y2_m5, y3_m5 =>
    (bif (decide (x42_m5 < x41_m5)) then (
        G ((0 ≤ x42_m5 ∧ x42_m5 < (y2_m5.Answers.length : Int))) (
          G ((0 ≤ x42_m5 ∧ x42_m5 < (y3_m5.Answers.length : Int))) (
            (bif (!decide ((ix y2_m5.Answers x42_m5) = (ix y3_m5.Answers x42_m5))) then (
                some (false)) else (
                G (I (x42_m5 + (1 : Int))) (
                  mkref1_SameStore_l1 k4 m5 (x41_m5) ((x42_m5 + (1 : Int))) (y2_m5) (y3_m5))))))) else (
        k4 (y2_m5) (y3_m5)))

def mkref1_SameStore_l2 (k11 : Unit → Option Bool) : Nat → Int → Int → Mk.Store → Mk.Store → Option Bool
  | 0, _, _, _, _ => none
  | m12 + 1, x59_m12, x60_m12, y2_m12, y3_m12 =>
    (bif (decide (x60_m12 < x59_m12)) then (
        G ((0 ≤ x60_m12 ∧ x60_m12 < (y2_m12.Past.length : Int))) (
          G ((0 ≤ x60_m12 ∧ x60_m12 < (y3_m12.Past.length : Int))) (
            (bif (!decide ((ix y2_m12.Past x60_m12) = (ix y3_m12.Past x60_m12))) then (
                some (false)) else (
                G (I (x60_m12 + (1 : Int))) (
                  mkref1_SameStore_l2 k11 m12 (x59_m12) ((x60_m12 + (1 : Int))) (y2_m12) (y3_m12))))))) else (
        k11 ()))

/-- mkref1.SameStore -/
def mkref1_SameStore (a0 : Mk.Store) (a1 : Mk.Store) : Option Bool :=
    (mkref1_SameInts (a0.Cells) (a1.Cells)).bind (fun v1 =>
      (Cn (((!v1)) = false) (mkref1_SameWrites (a0.Undo) (a1.Undo))).bind (fun v2 =>
        (bif ((((!v1) || (!v2)) || (!decide ((a0.Answers.length : Int) = (a1.Answers.length : Int)))) || (!decide ((a0.Past.length : Int) = (a1.Past.length : Int)))) then (
            some (false)) else (
            J (fun (y2_k4 : Mk.Store) (y3_k4 : Mk.Store) =>
              J (fun (_ : Unit) =>
                some (true)) (fun k11 =>
                mkref1_SameStore_l2 k11 (((y2_k4.Past.length : Int) - (0 : Int)).toNat + 1) ((y2_k4.Past.length : Int)) ((0 : Int)) (y2_k4) (y3_k4))) (fun k4 =>
              mkref1_SameStore_l1 k4 (((a0.Answers.length : Int) - (0 : Int)).toNat + 1) ((a0.Answers.length : Int)) ((0 : Int)) (a0) (a1))))))

/-- store.New -/
def store_New  : Option Mk.Store :=
    (cell_New).bind (fun v1 =>
      some (({ Cells := v1, Undo := ([] : List Mk.Write), Answers := ([] : List Mk.Answer), Past := ([] : List Mk.Request) } : Mk.Store)))

def mkref1_RightStore_l2 (k7 : (List Mk.Answer) → Int → Int → Mk.Store → Option Bool) : Nat → (List Mk.Answer) → Int → Int → (List Mk.Answer) → Int → Int → Mk.Store → Mk.Answer → Option Bool
  | 0, _, _, _, _, _, _, _, _ => none
  | m12 + 1, x41_m12, x42_m12, x43_m12, x54_m12, x55_m12, x56_m12, y1_m12, y4_m12 =>
    (bif (decide (x56_m12 < x55_m12)) then (
        G ((0 ≤ x56_m12 ∧ x56_m12 < (x54_m12.length : Int))) (
          (bif (decide (y4_m12.Client = (ix x54_m12 x56_m12).Client)) then (
              some (false)) else (
              G (I (x56_m12 + (1 : Int))) (
                mkref1_RightStore_l2 k7 m12 (x41_m12) (x42_m12) (x43_m12) (x54_m12) (x55_m12) ((x56_m12 + (1 : Int))) (y1_m12) (y4_m12)))))) else (
        k7 (x41_m12) (x42_m12) (x43_m12) (y1_m12)))

def mkref1_RightStore_l1 (k4 : Mk.Store → Option Bool) : Nat → (List Mk.Answer) → Int → Int → Mk.Store → Option Bool
  | 0, _, _, _, _ => none
  | m5 + 1, x41_m5, x42_m5, x43_m5, y1_m5 =>
    (bif (decide (x43_m5 < x42_m5)) then (
        J (fun (x41_k7 : List Mk.Answer) (x42_k7 : Int) (x43_k7 : Int) (y1_k7 : Mk.Store) =>
          G (I (x43_k7 + (1 : Int))) (
            mkref1_RightStore_l1 k4 m5 (x41_k7) (x42_k7) ((x43_k7 + (1 : Int))) (y1_k7))) (fun k7 =>
          G ((0 ≤ x43_m5 ∧ x43_m5 < (x41_m5.length : Int))) (
            (mkref1_WrongAnswer ((ix x41_m5 x43_m5))).bind (fun v9 =>
              (bif (!decide (v9 = (0 : Int))) then (
                  some (false)) else (
                  G ((0 ≤ (0 : Int) ∧ (0 : Int) ≤ x43_m5 ∧ x43_m5 ≤ (y1_m5.Answers.length : Int))) (
                    mkref1_RightStore_l2 k7 ((((sub y1_m5.Answers (0 : Int) x43_m5).length : Int) - (0 : Int)).toNat + 1) (x41_m5) (x42_m5) (x43_m5) ((sub y1_m5.Answers (0 : Int) x43_m5)) (((sub y1_m5.Answers (0 : Int) x43_m5).length : Int)) ((0 : Int)) (y1_m5) ((ix x41_m5 x43_m5))))))))) else (
        k4 (y1_m5)))

def mkref1_RightStore_l3 (k18 : Unit → Option Bool) : Nat → (List Mk.Write) → Int → Int → Option Bool
  | 0, _, _, _ => none
  | m19 + 1, x68_m19, x69_m19, x70_m19 =>
    (bif (decide (x70_m19 < x69_m19)) then (
        G ((0 ≤ x70_m19 ∧ x70_m19 < (x68_m19.length : Int))) (
          (bif ((decide ((ix x68_m19 x70_m19).At < (0 : Int))) || (decide ((10 : Int) < (ix x68_m19 x70_m19).At))) then (
              some (false)) else (
              G (I (x70_m19 + (1 : Int))) (
                mkref1_RightStore_l3 k18 m19 (x68_m19) (x69_m19) ((x70_m19 + (1 : Int)))))))) else (
        k18 ()))

/-- mkref1.RightStore -/
def mkref1_RightStore (a0 : Mk.Store) : Option Bool :=
    (Cn (((!decide ((a0.Cells.length : Int) = (11 : Int)))) = false) (mkref1_Set2 (a0.Cells) (a0.Undo))).bind (fun v1 =>
      (Cn (((!decide ((a0.Cells.length : Int) = (11 : Int)))) = false) (mkref1_WrongCells (v1))).bind (fun v2 =>
        (bif (((((!decide ((a0.Cells.length : Int) = (11 : Int))) || (!decide (v2 = (0 : Int)))) || (decide ((100 : Int) < (a0.Undo.length : Int)))) || (decide ((3 : Int) < (a0.Answers.length : Int)))) || (decide ((100 : Int) < (a0.Past.length : Int)))) then (
            some (false)) else (
            J (fun (y1_k4 : Mk.Store) =>
              J (fun (_ : Unit) =>
                some (true)) (fun k18 =>
                mkref1_RightStore_l3 k18 (((y1_k4.Undo.length : Int) - (0 : Int)).toNat + 1) (y1_k4.Undo) ((y1_k4.Undo.length : Int)) ((0 : Int)))) (fun k4 =>
              mkref1_RightStore_l1 k4 (((a0.Answers.length : Int) - (0 : Int)).toNat + 1) (a0.Answers) ((a0.Answers.length : Int)) ((0 : Int)) (a0))))))

def store_Last_l1 (k1 : Mk.Answer → Option (Mk.Answer × Bool)) : Nat → Int → (List Mk.Answer) → Int → Int → Mk.Answer → Option (Mk.Answer × Bool)
  | 0, _, _, _, _, _ => none
  | m2 + 1, x1_m2, x9_m2, x10_m2, x11_m2, y4_m2 =>
    (bif (decide (x11_m2 < x10_m2)) then (
        G ((0 ≤ x11_m2 ∧ x11_m2 < (x9_m2.length : Int))) (
          (bif (decide ((ix x9_m2 x11_m2).Client = x1_m2)) then (
              some ((ix x9_m2 x11_m2), true)) else (
              G (I (x11_m2 + (1 : Int))) (
                store_Last_l1 k1 m2 (x1_m2) (x9_m2) (x10_m2) ((x11_m2 + (1 : Int))) (y4_m2)))))) else (
        k1 (y4_m2)))

/-- store.Last -/
def store_Last (a0 : Mk.Store) (a1 : Int) : Option (Mk.Answer × Bool) :=
    J (fun (y4_k1 : Mk.Answer) =>
      some (({ Client := (0 : Int), Token := (0 : Int), Reply := ({ Err := (0 : Int), N := (0 : Int) } : Mk.Reply) } : Mk.Answer), false)) (fun k1 =>
      store_Last_l1 k1 (((a0.Answers.length : Int) - (0 : Int)).toNat + 1) (a1) (a0.Answers) ((a0.Answers.length : Int)) ((0 : Int)) (({ Client := (0 : Int), Token := (0 : Int), Reply := ({ Err := (0 : Int), N := (0 : Int) } : Mk.Reply) } : Mk.Answer)))

def mkref1_Last_l1 (k1 : Mk.Answer → Option (Mk.Answer × Bool)) : Nat → Int → Int → Int → Mk.Store → Mk.Answer → Option (Mk.Answer × Bool)
  | 0, _, _, _, _, _ => none
  | m2 + 1, x1_m2, x9_m2, x10_m2, y2_m2, y4_m2 =>
    (bif (decide (x10_m2 < x9_m2)) then (
        G ((0 ≤ x10_m2 ∧ x10_m2 < (y2_m2.Answers.length : Int))) (
          (bif (decide ((ix y2_m2.Answers x10_m2).Client = x1_m2)) then (
              G ((0 ≤ x10_m2 ∧ x10_m2 < (y2_m2.Answers.length : Int))) (
                some ((ix y2_m2.Answers x10_m2), true))) else (
              G (I (x10_m2 + (1 : Int))) (
                mkref1_Last_l1 k1 m2 (x1_m2) (x9_m2) ((x10_m2 + (1 : Int))) (y2_m2) (y4_m2)))))) else (
        k1 (y4_m2)))

/-- mkref1.Last -/
def mkref1_Last (a0 : Mk.Store) (a1 : Int) : Option (Mk.Answer × Bool) :=
    J (fun (y4_k1 : Mk.Answer) =>
      some (({ Client := (0 : Int), Token := (0 : Int), Reply := ({ Err := (0 : Int), N := (0 : Int) } : Mk.Reply) } : Mk.Answer), false)) (fun k1 =>
      mkref1_Last_l1 k1 (((a0.Answers.length : Int) - (0 : Int)).toNat + 1) (a1) ((a0.Answers.length : Int)) ((0 : Int)) (a0) (({ Client := (0 : Int), Token := (0 : Int), Reply := ({ Err := (0 : Int), N := (0 : Int) } : Mk.Reply) } : Mk.Answer)))

/-- slices.Clone[[]api.Answer,api.Answer] -/
def slices_Clone___api_Answer_api_Answer_ (a0 : List Mk.Answer) : Option ((List Mk.Answer)) :=
    G (((([] : List Mk.Answer).length + a0.length) * 32 ≤ 140737488355328 ∧ ([] : List Mk.Answer).length + a0.length ≤ 9223372036854775807)) (
      some ((([] : List Mk.Answer) ++ a0)))

/-- slices.Clone[[]api.Request,api.Request] -/
def slices_Clone___api_Request_api_Request_ (a0 : List Mk.Request) : Option ((List Mk.Request)) :=
    G (((([] : List Mk.Request).length + a0.length) * 48 ≤ 140737488355328 ∧ ([] : List Mk.Request).length + a0.length ≤ 9223372036854775807)) (
      some ((([] : List Mk.Request) ++ a0)))

/-- store.Own -/
def store_Own (a0 : Mk.Store) : Option Mk.Store :=
    (slices_Clone___int_int_ (a0.Cells)).bind (fun v1 =>
      (slices_Clone___api_Write_api_Write_ (a0.Undo)).bind (fun v2 =>
        (slices_Clone___api_Answer_api_Answer_ (a0.Answers)).bind (fun v3 =>
          (slices_Clone___api_Request_api_Request_ (a0.Past)).bind (fun v4 =>
            some (({ Cells := v1, Undo := v2, Answers := v3, Past := v4 } : Mk.Store))))))

/-- store.Write -/
def store_Write (a0 : Mk.Store) (a1 : Mk.Write) : Option Mk.Store :=
    (store_Own (a0)).bind (fun v1 =>
      (cell_Undo (a0.Cells) (([a1] : List Mk.Write))).bind (fun v2 =>
        G (((v2.length + v1.Undo.length) * 16 ≤ 140737488355328 ∧ v2.length + v1.Undo.length ≤ 9223372036854775807)) (
          (cell_Set ({ v1 with Undo := (v2 ++ v1.Undo) }.Cells) (([a1] : List Mk.Write))).bind (fun v4 =>
            some ({ ({ v1 with Undo := (v2 ++ v1.Undo) }) with Cells := v4 })))))

/-- mkref1.Write -/
def mkref1_Write (a0 : Mk.Store) (a1 : Mk.Write) : Option Mk.Store :=
    J (fun (y2_k1 : Mk.Store) (y4_k1 : Mk.Store) =>
      some (y2_k1)) (fun k1 =>
      (bif ((decide ((0 : Int) ≤ a1.At)) && (decide (a1.At < (a0.Cells.length : Int)))) then (
          G ((0 ≤ a1.At ∧ a1.At < (a0.Cells.length : Int))) (
            G (((([({ At := a1.At, N := (ix a0.Cells a1.At) } : Mk.Write)] : List Mk.Write).length + a0.Undo.length) * 16 ≤ 140737488355328 ∧ ([({ At := a1.At, N := (ix a0.Cells a1.At) } : Mk.Write)] : List Mk.Write).length + a0.Undo.length ≤ 9223372036854775807)) (
              (mkref1_Set ({ a0 with Undo := (([({ At := a1.At, N := (ix a0.Cells a1.At) } : Mk.Write)] : List Mk.Write) ++ a0.Undo) }.Cells) (([a1] : List Mk.Write))).bind (fun v5 =>
                k1 ({ ({ a0 with Undo := (([({ At := a1.At, N := (ix a0.Cells a1.At) } : Mk.Write)] : List Mk.Write) ++ a0.Undo) }) with Cells := v5 }) (({ Cells := ([] : List Int), Undo := ([] : List Mk.Write), Answers := ([] : List Mk.Answer), Past := ([] : List Mk.Request) } : Mk.Store)))))) else (
          k1 (a0) (({ Cells := ([] : List Int), Undo := ([] : List Mk.Write), Answers := ([] : List Mk.Answer), Past := ([] : List Mk.Request) } : Mk.Store)))))

def store_Commit_l1 (k3 : Mk.Store → Mk.Store → Mk.Answer → (List Mk.Answer) → (List Mk.Request) → Option Mk.Store) : Nat → Int → Int → Mk.Request → Mk.Store → Mk.Store → Mk.Answer → (List Mk.Answer) → (List Mk.Request) → Option Mk.Store
  | 0, _, _, _, _, _, _, _, _ => none
  | m4 + 1, x28_m4, x29_m4, y4_m4, y6_m4, y7_m4, y8_m4, y40122_m4, y40123_m4 =>
    (bif (decide (x29_m4 < x28_m4)) then (
        G ((0 ≤ x29_m4 ∧ x29_m4 < (y40122_m4.length : Int))) (
          (bif (decide ((ix y40122_m4 x29_m4).Client = y4_m4.Client)) then (
              G ((0 ≤ x29_m4 ∧ x29_m4 < (y40122_m4.length : Int))) (
                some ({ ({ y7_m4 with Answers := (up y40122_m4 x29_m4 y8_m4) }) with Past := y40123_m4 }))) else (
              G (I (x29_m4 + (1 : Int))) (
                store_Commit_l1 k3 m4 (x28_m4) ((x29_m4 + (1 : Int))) (y4_m4) (y6_m4) (y7_m4) (y8_m4) (y40122_m4) (y40123_m4)))))) else (
        k3 (y6_m4) (y7_m4) (y8_m4) (y40122_m4) (y40123_m4)))

/-- store.Commit -/
def store_Commit (a0 : Mk.Store) (a1 : Mk.Request) (a2 : Mk.Reply) : Option Mk.Store :=
    (store_Own (a0)).bind (fun v1 =>
      G (((v1.Past.length + ([a1] : List Mk.Request).length) * 48 ≤ 140737488355328 ∧ v1.Past.length + ([a1] : List Mk.Request).length ≤ 9223372036854775807)) (
        J (fun (y6_k3 : Mk.Store) (y7_k3 : Mk.Store) (y8_k3 : Mk.Answer) (y40122_k3 : List Mk.Answer) (y40123_k3 : List Mk.Request) =>
          G (((y40122_k3.length + ([y8_k3] : List Mk.Answer).length) * 32 ≤ 140737488355328 ∧ y40122_k3.length + ([y8_k3] : List Mk.Answer).length ≤ 9223372036854775807)) (
            some ({ ({ y7_k3 with Past := y40123_k3 }) with Answers := (y40122_k3 ++ ([y8_k3] : List Mk.Answer)) }))) (fun k3 =>
          store_Commit_l1 k3 (((v1.Answers.length : Int) - (0 : Int)).toNat + 1) ((v1.Answers.length : Int)) ((0 : Int)) (a1) (({ Cells := ([] : List Int), Undo := ([] : List Mk.Write), Answers := ([] : List Mk.Answer), Past := ([] : List Mk.Request) } : Mk.Store)) ({ ({ ({ v1 with Answers := ([] : List Mk.Answer) }) with Past := ([] : List Mk.Request) }) with Undo := ([] : List Mk.Write) }) (({ Client := a1.Client, Token := a1.Token, Reply := a2 } : Mk.Answer)) (v1.Answers) ((v1.Past ++ ([a1] : List Mk.Request))))))

def mkref1_Commit_l1 (k1 : Bool → Mk.Store → Mk.Request → Mk.Store → Mk.Answer → (List Mk.Answer) → Option Mk.Store) : Nat → Bool → (List Mk.Answer) → Int → Int → Mk.Store → Mk.Request → Mk.Store → Mk.Answer → (List Mk.Answer) → Option Mk.Store
  | 0, _, _, _, _, _, _, _, _, _ => none
  | m2 + 1, x9_m2, x19_m2, x20_m2, x21_m2, y3_m2, y4_m2, y6_m2, y7_m2, y1008_m2 =>
    (bif (decide (x21_m2 < x20_m2)) then (
        G ((0 ≤ x21_m2 ∧ x21_m2 < (x19_m2.length : Int))) (
          J (fun (x9_k5 : Bool) (x19_k5 : List Mk.Answer) (x20_k5 : Int) (x21_k5 : Int) (y3_k5 : Mk.Store) (y4_k5 : Mk.Request) (y6_k5 : Mk.Store) (y7_k5 : Mk.Answer) (y11_k5 : Mk.Answer) (y1008_k5 : List Mk.Answer) =>
            G (((y1008_k5.length + ([y11_k5] : List Mk.Answer).length) * 32 ≤ 140737488355328 ∧ y1008_k5.length + ([y11_k5] : List Mk.Answer).length ≤ 9223372036854775807)) (
              G (I (x21_k5 + (1 : Int))) (
                mkref1_Commit_l1 k1 m2 (x9_k5) (x19_k5) (x20_k5) ((x21_k5 + (1 : Int))) (y3_k5) (y4_k5) (y6_k5) (y7_k5) ((y1008_k5 ++ ([y11_k5] : List Mk.Answer)))))) (fun k5 =>
            (bif ((decide ((ix x19_m2 x21_m2).Client = y4_m2.Client)) && (!x9_m2)) then (
                k5 (true) (x19_m2) (x20_m2) (x21_m2) (y3_m2) (y4_m2) (y6_m2) (y7_m2) (y7_m2) (y1008_m2)) else (
                k5 (x9_m2) (x19_m2) (x20_m2) (x21_m2) (y3_m2) (y4_m2) (y6_m2) (y7_m2) ((ix x19_m2 x21_m2)) (y1008_m2)))))) else (
        k1 (x9_m2) (y3_m2) (y4_m2) (y6_m2) (y7_m2) (y1008_m2)))

/-- mkref1.Commit -/
def mkref1_Commit (a0 : Mk.Store) (a1 : Mk.Request) (a2 : Mk.Reply) : Option Mk.Store :=
    J (fun (x9_k1 : Bool) (y3_k1 : Mk.Store) (y4_k1 : Mk.Request) (y6_k1 : Mk.Store) (y7_k1 : Mk.Answer) (y1008_k1 : List Mk.Answer) =>
      J (fun (y3_k9 : Mk.Store) (y4_k9 : Mk.Request) (y6_k9 : Mk.Store) (y1008_k9 : List Mk.Answer) =>
        G (((([] : List Mk.Request).length + y3_k9.Past.length) * 48 ≤ 140737488355328 ∧ ([] : List Mk.Request).length + y3_k9.Past.length ≤ 9223372036854775807)) (
          G ((((([] : List Mk.Request) ++ y3_k9.Past).length + ([y4_k9] : List Mk.Request).length) * 48 ≤ 140737488355328 ∧ (([] : List Mk.Request) ++ y3_k9.Past).length + ([y4_k9] : List Mk.Request).length ≤ 9223372036854775807)) (
            some (({ Cells := y3_k9.Cells, Undo := ([] : List Mk.Write), Answers := y1008_k9, Past := ((([] : List Mk.Request) ++ y3_k9.Past) ++ ([y4_k9] : List Mk.Request)) } : Mk.Store))))) (fun k9 =>
        (bif (!x9_k1) then (
            G (((y1008_k1.length + ([y7_k1] : List Mk.Answer).length) * 32 ≤ 140737488355328 ∧ y1008_k1.length + ([y7_k1] : List Mk.Answer).length ≤ 9223372036854775807)) (
              k9 (y3_k1) (y4_k1) (y6_k1) ((y1008_k1 ++ ([y7_k1] : List Mk.Answer))))) else (
            k9 (y3_k1) (y4_k1) (y6_k1) (y1008_k1))))) (fun k1 =>
      mkref1_Commit_l1 k1 (((a0.Answers.length : Int) - (0 : Int)).toNat + 1) (false) (a0.Answers) ((a0.Answers.length : Int)) ((0 : Int)) (a0) (a1) (({ Cells := ([] : List Int), Undo := ([] : List Mk.Write), Answers := ([] : List Mk.Answer), Past := ([] : List Mk.Request) } : Mk.Store)) (({ Client := a1.Client, Token := a1.Token, Reply := a2 } : Mk.Answer)) (([] : List Mk.Answer)))

/-- store.Back -/
def store_Back (a0 : Mk.Store) : Option Mk.Store :=
    (store_Own (a0)).bind (fun v1 =>
      (cell_Set (v1.Cells) (v1.Undo)).bind (fun v2 =>
        some ({ ({ v1 with Cells := v2 }) with Undo := ([] : List Mk.Write) })))

/-- mkref1.Back -/
def mkref1_Back (a0 : Mk.Store) : Option Mk.Store :=
    (mkref1_Set2 (a0.Cells) (a0.Undo)).bind (fun v1 =>
      some ({ ({ a0 with Cells := v1 }) with Undo := ([] : List Mk.Write) }))
end Sp
