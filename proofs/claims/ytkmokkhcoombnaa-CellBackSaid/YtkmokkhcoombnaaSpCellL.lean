/- WHAT FUNCTIONS OF THE PROGRAM ANSWER, in plain Lean: printed by gen3.py. -/
import Derived.Test.YtkmokkhcoombnaaSpCell
namespace Sp
set_option linter.unusedVariables false
/-- mklaw1.alive -/
def mklaw1_alive  : Option Bool :=
    (cell_New).bind (fun v1 =>
      (cell_Set (v1) (([({ At := (1 : Int), N := (7 : Int) } : Mk.Write), ({ At := (2 : Int), N := (5 : Int) } : Mk.Write), ({ At := (0 : Int), N := (1 : Int) } : Mk.Write)] : List Mk.Write))).bind (fun v2 =>
        (cell_Undo (v1) (([({ At := (1 : Int), N := (7 : Int) } : Mk.Write), ({ At := (2 : Int), N := (5 : Int) } : Mk.Write), ({ At := (0 : Int), N := (1 : Int) } : Mk.Write)] : List Mk.Write))).bind (fun v3 =>
          (Cn (((decide ((v1.length : Int) = (11 : Int)))) = true) (cell_Wrong (v1))).bind (fun v4 =>
            (Cn ((((decide ((v1.length : Int) = (11 : Int))) && (decide (v4 = (0 : Int))))) = true) (cell_Wrong (v2))).bind (fun v5 =>
              (Cn (((((decide ((v1.length : Int) = (11 : Int))) && (decide (v4 = (0 : Int)))) && (decide (v5 = (0 : Int))))) = true) (cell_Find (v2) ((7 : Int)))).bind (fun v6 =>
                (Cn ((((((decide ((v1.length : Int) = (11 : Int))) && (decide (v4 = (0 : Int)))) && (decide (v5 = (0 : Int)))) && (decide (v6 = (0 : Int))))) = true) (cell_Find (v2) ((8 : Int)))).bind (fun v7 =>
                  G ((((((((decide ((v1.length : Int) = (11 : Int))) && (decide (v4 = (0 : Int)))) && (decide (v5 = (0 : Int)))) && (decide (v6 = (0 : Int)))) && (decide (v7 = (-1 : Int)))) && (decide ((v3.length : Int) = (3 : Int))))) = true → (0 ≤ (0 : Int) ∧ (0 : Int) < (v3.length : Int))) (
                    some ((((((((decide ((v1.length : Int) = (11 : Int))) && (decide (v4 = (0 : Int)))) && (decide (v5 = (0 : Int)))) && (decide (v6 = (0 : Int)))) && (decide (v7 = (-1 : Int)))) && (decide ((v3.length : Int) = (3 : Int)))) && (decide ((ix v3 (0 : Int)) = ({ At := (0 : Int), N := (0 : Int) } : Mk.Write)))))))))))))

/-- mklaw1.CellTells -/
def mklaw1_CellTells (a0 : List Int) (a1 : List Mk.Write) (a2 : Int) : Option Bool :=
    (cell_New).bind (fun v1 =>
      G ((0 ≤ (11 : Int) ∧ (11 : Int) = (11 : Int) ∧ (11 : Int) ≤ 16777216)) (
        (mkref1_SameInts (v1) ((List.replicate (Int.toNat (11 : Int)) (0 : Int)))).bind (fun v3 =>
          (Cn (((!v3)) = false) (cell_Wrong (a0))).bind (fun v4 =>
            (Cn (((!v3)) = false) (mkref1_WrongCells (a0))).bind (fun v5 =>
              (Cn ((((!v3) || (!decide (v4 = v5)))) = false) (cell_Set (a0) (a1))).bind (fun v6 =>
                (Cn ((((!v3) || (!decide (v4 = v5)))) = false) (mkref1_Set (a0) (a1))).bind (fun v7 =>
                  (Cn ((((!v3) || (!decide (v4 = v5)))) = false) (mkref1_SameInts (v6) (v7))).bind (fun v8 =>
                    (Cn (((((!v3) || (!decide (v4 = v5))) || (!v8))) = false) (cell_Undo (a0) (a1))).bind (fun v9 =>
                      (Cn (((((!v3) || (!decide (v4 = v5))) || (!v8))) = false) (mkref1_Undo (a0) (a1))).bind (fun v10 =>
                        (Cn (((((!v3) || (!decide (v4 = v5))) || (!v8))) = false) (mkref1_SameWrites (v9) (v10))).bind (fun v11 =>
                          (bif ((((!v3) || (!decide (v4 = v5))) || (!v8)) || (!v11)) then (
                            some (false)) else (
                            (mkref1_WrongCells (a0)).bind (fun v13 =>
                            (Cn (((!decide (v13 = (0 : Int)))) = false) (cell_Find (a0) (a2))).bind (fun v14 =>
                            (Cn (((!decide (v13 = (0 : Int)))) = false) (mkref1_Find (a0) (a2))).bind (fun v15 =>
                            some (((!decide (v13 = (0 : Int))) || (decide (v14 = v15))))))))))))))))))))

/-- mklaw1.CellApart -/
def mklaw1_CellApart (a0 : List Int) (a1 : Mk.Write) (a2 : Mk.Write) : Option Bool :=
    (mklaw1_alive).bind (fun v1 =>
      (bif (!v1) then (
          some (false)) else (
          (bif (decide (a1.At = a2.At)) then (
              some (true)) else (
              (cell_Set (a0) (([a1, a2] : List Mk.Write))).bind (fun v4 =>
                (cell_Set (a0) (([a2, a1] : List Mk.Write))).bind (fun v5 =>
                  (mkref1_SameInts (v4) (v5)).bind (fun v6 =>
                    (Cn ((v6) = true) (cell_Set (a0) (([a1] : List Mk.Write)))).bind (fun v7 =>
                      (Cn ((v6) = true) (cell_Set (v7) (([a2] : List Mk.Write)))).bind (fun v8 =>
                        (Cn ((v6) = true) (cell_Set (a0) (([a1, a2] : List Mk.Write)))).bind (fun v9 =>
                          (Cn ((v6) = true) (mkref1_SameInts (v8) (v9))).bind (fun v10 =>
                            some ((v6 && v10))))))))))))))

/-- mklaw1.CellBack -/
def mklaw1_CellBack (a0 : List Int) (a1 : List Mk.Write) (a2 : Int) : Option Bool :=
    (mklaw1_alive).bind (fun v1 =>
      (bif (!v1) then (
          some (false)) else (
          (bif ((decide (a2 < (0 : Int))) || (decide ((a1.length : Int) < a2))) then (
              some (true)) else (
              (cell_Set (a0) (a1)).bind (fun v4 =>
                (cell_Undo (a0) (a1)).bind (fun v5 =>
                  (cell_Set (v4) (v5)).bind (fun v6 =>
                    (mkref1_SameInts (v6) (a0)).bind (fun v7 =>
                      G ((v7) = true → (0 ≤ (0 : Int) ∧ (0 : Int) ≤ a2 ∧ a2 ≤ (a1.length : Int))) (
                        (Cn ((v7) = true) (cell_Set (a0) ((sub a1 (0 : Int) a2)))).bind (fun v9 =>
                          G ((v7) = true → (0 ≤ (0 : Int) ∧ (0 : Int) ≤ a2 ∧ a2 ≤ (a1.length : Int))) (
                            (Cn ((v7) = true) (cell_Undo (a0) ((sub a1 (0 : Int) a2)))).bind (fun v11 =>
                            (Cn ((v7) = true) (cell_Set (v9) (v11))).bind (fun v12 =>
                            (Cn ((v7) = true) (mkref1_SameInts (v12) (a0))).bind (fun v13 =>
                            some ((v7 && v13)))))))))))))))))
end Sp
