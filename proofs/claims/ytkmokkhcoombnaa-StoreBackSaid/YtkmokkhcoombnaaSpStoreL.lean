/- WHAT FUNCTIONS OF THE PROGRAM ANSWER, in plain Lean: printed by gen3.py. -/
import Derived.Test.YtkmokkhcoombnaaSpStore
namespace Sp
set_option linter.unusedVariables false
/-- mklaw6.alive -/
def mklaw6_alive  : Option Bool :=
    (store_New).bind (fun v1 =>
      (store_Write (v1) (({ At := (1 : Int), N := (7 : Int) } : Mk.Write))).bind (fun v2 =>
        (store_Write (v2) (({ At := (1 : Int), N := (8 : Int) } : Mk.Write))).bind (fun v3 =>
          (store_Back (v3)).bind (fun v4 =>
            (store_Commit (v3) (({ Client := (1 : Int), Token := (2 : Int), Call := ({ Kind := (0 : Int), Name := (0 : Int), Other := (0 : Int), N := (0 : Int) } : Mk.Call) } : Mk.Request)) (({ Err := (0 : Int), N := (4 : Int) } : Mk.Reply))).bind (fun v5 =>
              (store_Last (v5) ((1 : Int))).bind (fun v6 =>
                G (((decide ((v3.Undo.length : Int) = (2 : Int)))) = true → (0 ≤ (1 : Int) ∧ (1 : Int) < (v3.Cells.length : Int))) (
                  G ((((decide ((v3.Undo.length : Int) = (2 : Int))) && (decide ((ix v3.Cells (1 : Int)) = (8 : Int))))) = true → (0 ≤ (1 : Int) ∧ (1 : Int) < (v4.Cells.length : Int))) (
                    G ((((((decide ((v3.Undo.length : Int) = (2 : Int))) && (decide ((ix v3.Cells (1 : Int)) = (8 : Int)))) && (decide ((ix v4.Cells (1 : Int)) = (0 : Int)))) && (decide ((v4.Undo.length : Int) = (0 : Int))))) = true → (0 ≤ (1 : Int) ∧ (1 : Int) < (v5.Cells.length : Int))) (
                      (Cn ((((((((((((decide ((v3.Undo.length : Int) = (2 : Int))) && (decide ((ix v3.Cells (1 : Int)) = (8 : Int)))) && (decide ((ix v4.Cells (1 : Int)) = (0 : Int)))) && (decide ((v4.Undo.length : Int) = (0 : Int)))) && (decide ((ix v5.Cells (1 : Int)) = (8 : Int)))) && (decide ((v5.Undo.length : Int) = (0 : Int)))) && v6.2) && (decide (v6.1.Token = (2 : Int)))) && (decide (v6.1.Reply.N = (4 : Int)))) && (decide ((v5.Past.length : Int) = (1 : Int))))) = true) (store_Own (v5))).bind (fun v10 =>
                        some ((((((((((((decide ((v3.Undo.length : Int) = (2 : Int))) && (decide ((ix v3.Cells (1 : Int)) = (8 : Int)))) && (decide ((ix v4.Cells (1 : Int)) = (0 : Int)))) && (decide ((v4.Undo.length : Int) = (0 : Int)))) && (decide ((ix v5.Cells (1 : Int)) = (8 : Int)))) && (decide ((v5.Undo.length : Int) = (0 : Int)))) && v6.2) && (decide (v6.1.Token = (2 : Int)))) && (decide (v6.1.Reply.N = (4 : Int)))) && (decide ((v5.Past.length : Int) = (1 : Int)))) && (decide ((v10.Answers.length : Int) = (1 : Int)))))))))))))))

/-- mklaw6.StoreTells -/
def mklaw6_StoreTells (a0 : Mk.Store) (a1 : Mk.Write) (a2 : Mk.Request) (a3 : Mk.Reply) (a4 : Int) : Option Bool :=
    (store_New).bind (fun v1 =>
      G ((0 ≤ (11 : Int) ∧ (11 : Int) = (11 : Int) ∧ (11 : Int) ≤ 16777216)) (
        (mkref1_SameStore (v1) (({ Cells := (List.replicate (Int.toNat (11 : Int)) (0 : Int)), Undo := ([] : List Mk.Write), Answers := ([] : List Mk.Answer), Past := ([] : List Mk.Request) } : Mk.Store))).bind (fun v3 =>
          (bif (!v3) then (
              some (false)) else (
              (mkref1_RightStore (a0)).bind (fun v5 =>
                (bif (!v5) then (
                    some (true)) else (
                    (store_Last (a0) (a4)).bind (fun v7 =>
                      (mkref1_Last (a0) (a4)).bind (fun v8 =>
                        (Cn ((((decide (v7.1 = v8.1)) && (decide (v7.2 = v8.2)))) = true) (store_Own (a0))).bind (fun v9 =>
                          (Cn ((((decide (v7.1 = v8.1)) && (decide (v7.2 = v8.2)))) = true) (mkref1_SameStore (v9) (a0))).bind (fun v10 =>
                            (Cn (((((decide (v7.1 = v8.1)) && (decide (v7.2 = v8.2))) && v10)) = true) (store_Write (a0) (a1))).bind (fun v11 =>
                            (Cn (((((decide (v7.1 = v8.1)) && (decide (v7.2 = v8.2))) && v10)) = true) (mkref1_Write (a0) (a1))).bind (fun v12 =>
                            (Cn (((((decide (v7.1 = v8.1)) && (decide (v7.2 = v8.2))) && v10)) = true) (mkref1_SameStore (v11) (v12))).bind (fun v13 =>
                            (Cn ((((((decide (v7.1 = v8.1)) && (decide (v7.2 = v8.2))) && v10) && v13)) = true) (store_Commit (a0) (a2) (a3))).bind (fun v14 =>
                            (Cn ((((((decide (v7.1 = v8.1)) && (decide (v7.2 = v8.2))) && v10) && v13)) = true) (mkref1_Commit (a0) (a2) (a3))).bind (fun v15 =>
                            (Cn ((((((decide (v7.1 = v8.1)) && (decide (v7.2 = v8.2))) && v10) && v13)) = true) (mkref1_SameStore (v14) (v15))).bind (fun v16 =>
                            (Cn (((((((decide (v7.1 = v8.1)) && (decide (v7.2 = v8.2))) && v10) && v13) && v16)) = true) (store_Back (a0))).bind (fun v17 =>
                            (Cn (((((((decide (v7.1 = v8.1)) && (decide (v7.2 = v8.2))) && v10) && v13) && v16)) = true) (mkref1_Back (a0))).bind (fun v18 =>
                            (Cn (((((((decide (v7.1 = v8.1)) && (decide (v7.2 = v8.2))) && v10) && v13) && v16)) = true) (mkref1_SameStore (v17) (v18))).bind (fun v19 =>
                            some (((((((decide (v7.1 = v8.1)) && (decide (v7.2 = v8.2))) && v10) && v13) && v16) && v19)))))))))))))))))))))))

/-- mklaw6.StoreLast -/
def mklaw6_StoreLast (a0 : Mk.Store) (a1 : Mk.Request) (a2 : Mk.Reply) (a3 : Int) : Option Bool :=
    (mklaw6_alive).bind (fun v1 =>
      (bif (!v1) then (
          some (false)) else (
          (mkref1_RightStore (a0)).bind (fun v3 =>
            (bif ((!v3) || (decide (a3 = a1.Client))) then (
                some (true)) else (
                (store_Last (a0) (a3)).bind (fun v5 =>
                  (store_Commit (a0) (a1) (a2)).bind (fun v6 =>
                    (store_Last (v6) (a3)).bind (fun v7 =>
                      (store_Back (a0)).bind (fun v8 =>
                        (store_Last (v8) (a3)).bind (fun v9 =>
                          some (((((decide (v5.1 = v7.1)) && (decide (v7.1 = v9.1))) && (decide (v5.2 = v7.2))) && (decide (v7.2 = v9.2)))))))))))))))

def mklaw6_StoreBack_l1 (k5 : Mk.Store → Mk.Request → Mk.Reply → Mk.Store → Option Bool) : Nat → (List Mk.Write) → Int → Int → Mk.Store → Mk.Request → Mk.Reply → Mk.Store → Option Bool
  | 0, _, _, _, _, _, _, _ => none
  | m6 + 1, x26_m6, x27_m6, x28_m6, y4_m6, y6_m6, y7_m6, y9_m6 =>
    (bif (decide (x28_m6 < x27_m6)) then (
        G ((0 ≤ x28_m6 ∧ x28_m6 < (x26_m6.length : Int))) (
          (store_Write (y9_m6) ((ix x26_m6 x28_m6))).bind (fun v9 =>
            G (I (x28_m6 + (1 : Int))) (
              mklaw6_StoreBack_l1 k5 m6 (x26_m6) (x27_m6) ((x28_m6 + (1 : Int))) (y4_m6) (y6_m6) (y7_m6) (v9))))) else (
        k5 (y4_m6) (y6_m6) (y7_m6) (y9_m6)))

/-- mklaw6.StoreBack -/
def mklaw6_StoreBack (a0 : Mk.Store) (a1 : List Mk.Write) (a2 : Mk.Request) (a3 : Mk.Reply) : Option Bool :=
    (mklaw6_alive).bind (fun v1 =>
      (bif (!v1) then (
          some (false)) else (
          (mkref1_RightStore (a0)).bind (fun v3 =>
            (bif ((!v3) || (decide ((50 : Int) < (a1.length : Int)))) then (
                some (true)) else (
                J (fun (y4_k5 : Mk.Store) (y6_k5 : Mk.Request) (y7_k5 : Mk.Reply) (y9_k5 : Mk.Store) =>
                  (store_Back (y9_k5)).bind (fun v11 =>
                    (store_Back (y4_k5)).bind (fun v12 =>
                      (mkref1_SameStore (v11) (v12)).bind (fun v13 =>
                        (bif (!v13) then (
                            some (false)) else (
                            (store_Commit (y9_k5) (y6_k5) (y7_k5)).bind (fun v15 =>
                            (store_Last (v15) (y6_k5.Client)).bind (fun v16 =>
                            (store_Back (v15)).bind (fun v17 =>
                            (mkref1_SameStore (v17) (v15)).bind (fun v18 =>
                            (Cn ((v18) = true) (mkref1_SameInts (v15.Cells) (y9_k5.Cells))).bind (fun v19 =>
                            some ((((v18 && v19) && v16.2) && (decide (v16.1 = ({ Client := y6_k5.Client, Token := y6_k5.Token, Reply := y7_k5 } : Mk.Answer)))))))))))))))) (fun k5 =>
                  mklaw6_StoreBack_l1 k5 (((a1.length : Int) - (0 : Int)).toNat + 1) (a1) ((a1.length : Int)) ((0 : Int)) (a0) (a2) (a3) (a0))))))))
end Sp
