/- WHAT FUNCTIONS OF THE PROGRAM ANSWER, in plain Lean: printed by gen3.py. -/
import Derived.Test.YtkmokkhcoombnaaSpWire
namespace Sp
set_option linter.unusedVariables false
/-- mklaw5.alive -/
def mklaw5_alive  : Option Bool :=
    (wire_Request (({ Client := (2 : Int), Token := (5 : Int), Call := ({ Kind := (1 : Int), Name := (7 : Int), Other := (0 : Int), N := (-5 : Int) } : Mk.Call) } : Mk.Request))).bind (fun v1 =>
      (wire_ReadRequest (v1)).bind (fun v2 =>
        (wire_Answer (({ Client := (1 : Int), Token := (3 : Int), Reply := ({ Err := (0 : Int), N := (-9 : Int) } : Mk.Reply) } : Mk.Answer))).bind (fun v3 =>
          (wire_ReadAnswer (v3)).bind (fun v4 =>
            (Cn ((((((decide (v2.2 = (0 : Int))) && (decide (v4.2 = (0 : Int)))) && (decide (v2.1 = ({ Client := (2 : Int), Token := (5 : Int), Call := ({ Kind := (1 : Int), Name := (7 : Int), Other := (0 : Int), N := (-5 : Int) } : Mk.Call) } : Mk.Request)))) && (decide (v4.1 = ({ Client := (1 : Int), Token := (3 : Int), Reply := ({ Err := (0 : Int), N := (-9 : Int) } : Mk.Reply) } : Mk.Answer))))) = true) (wire_WrongRequest (({ Client := (2 : Int), Token := (5 : Int), Call := ({ Kind := (1 : Int), Name := (7 : Int), Other := (0 : Int), N := (-5 : Int) } : Mk.Call) } : Mk.Request)))).bind (fun v5 =>
              (Cn (((((((decide (v2.2 = (0 : Int))) && (decide (v4.2 = (0 : Int)))) && (decide (v2.1 = ({ Client := (2 : Int), Token := (5 : Int), Call := ({ Kind := (1 : Int), Name := (7 : Int), Other := (0 : Int), N := (-5 : Int) } : Mk.Call) } : Mk.Request)))) && (decide (v4.1 = ({ Client := (1 : Int), Token := (3 : Int), Reply := ({ Err := (0 : Int), N := (-9 : Int) } : Mk.Reply) } : Mk.Answer)))) && (decide (v5 = (0 : Int))))) = true) (wire_WrongAnswer (({ Client := (1 : Int), Token := (3 : Int), Reply := ({ Err := (0 : Int), N := (-9 : Int) } : Mk.Reply) } : Mk.Answer)))).bind (fun v6 =>
                (Cn ((((((((decide (v2.2 = (0 : Int))) && (decide (v4.2 = (0 : Int)))) && (decide (v2.1 = ({ Client := (2 : Int), Token := (5 : Int), Call := ({ Kind := (1 : Int), Name := (7 : Int), Other := (0 : Int), N := (-5 : Int) } : Mk.Call) } : Mk.Request)))) && (decide (v4.1 = ({ Client := (1 : Int), Token := (3 : Int), Reply := ({ Err := (0 : Int), N := (-9 : Int) } : Mk.Reply) } : Mk.Answer)))) && (decide (v5 = (0 : Int)))) && (decide (v6 = (0 : Int))))) = true) (wire_Request (({ Client := (2 : Int), Token := (5 : Int), Call := ({ Kind := (1 : Int), Name := (7 : Int), Other := (0 : Int), N := (-5 : Int) } : Mk.Call) } : Mk.Request)))).bind (fun v7 =>
                  (Cn (((((((((decide (v2.2 = (0 : Int))) && (decide (v4.2 = (0 : Int)))) && (decide (v2.1 = ({ Client := (2 : Int), Token := (5 : Int), Call := ({ Kind := (1 : Int), Name := (7 : Int), Other := (0 : Int), N := (-5 : Int) } : Mk.Call) } : Mk.Request)))) && (decide (v4.1 = ({ Client := (1 : Int), Token := (3 : Int), Reply := ({ Err := (0 : Int), N := (-9 : Int) } : Mk.Reply) } : Mk.Answer)))) && (decide (v5 = (0 : Int)))) && (decide (v6 = (0 : Int)))) && (decide ((v7.length : Int) = (10 : Int))))) = true) (wire_Answer (({ Client := (1 : Int), Token := (3 : Int), Reply := ({ Err := (0 : Int), N := (-9 : Int) } : Mk.Reply) } : Mk.Answer)))).bind (fun v8 =>
                    some (((((((((decide (v2.2 = (0 : Int))) && (decide (v4.2 = (0 : Int)))) && (decide (v2.1 = ({ Client := (2 : Int), Token := (5 : Int), Call := ({ Kind := (1 : Int), Name := (7 : Int), Other := (0 : Int), N := (-5 : Int) } : Mk.Call) } : Mk.Request)))) && (decide (v4.1 = ({ Client := (1 : Int), Token := (3 : Int), Reply := ({ Err := (0 : Int), N := (-9 : Int) } : Mk.Reply) } : Mk.Answer)))) && (decide (v5 = (0 : Int)))) && (decide (v6 = (0 : Int)))) && (decide ((v7.length : Int) = (10 : Int)))) && (decide ((v8.length : Int) = (8 : Int)))))))))))))

/-- mklaw5.WireTells -/
def mklaw5_WireTells (a0 : Mk.Request) (a1 : Mk.Answer) (a2 : List UInt8) : Option Bool :=
    (wire_WrongRequest (a0)).bind (fun v1 =>
      (mkref1_WrongRequest (a0)).bind (fun v2 =>
        (Cn (((!decide (v1 = v2))) = false) (wire_WrongAnswer (a1))).bind (fun v3 =>
          (Cn (((!decide (v1 = v2))) = false) (mkref1_WrongAnswer (a1))).bind (fun v4 =>
            (bif ((!decide (v1 = v2)) || (!decide (v3 = v4))) then (
                some (false)) else (
                (mkref1_WrongRequest (a0)).bind (fun v6 =>
                  (Cn (((decide (v6 = (0 : Int)))) = true) (wire_Request (a0))).bind (fun v7 =>
                    (Cn (((decide (v6 = (0 : Int)))) = true) (mkref1_RequestBytes (a0))).bind (fun v8 =>
                      (Cn ((((decide (v6 = (0 : Int))) && (!decide ((bts v7) = (bts v8))))) = false) (mkref1_WrongAnswer (a1))).bind (fun v9 =>
                        (Cn (((((decide (v6 = (0 : Int))) && (!decide ((bts v7) = (bts v8))))) = false) ∧ ((decide (v9 = (0 : Int)))) = true) (wire_Answer (a1))).bind (fun v10 =>
                          (Cn (((((decide (v6 = (0 : Int))) && (!decide ((bts v7) = (bts v8))))) = false) ∧ ((decide (v9 = (0 : Int)))) = true) (mkref1_AnswerBytes (a1))).bind (fun v11 =>
                            (bif (((decide (v6 = (0 : Int))) && (!decide ((bts v7) = (bts v8)))) || ((decide (v9 = (0 : Int))) && (!decide ((bts v10) = (bts v11))))) then (
                            some (false)) else (
                            (wire_ReadRequest (a2)).bind (fun v13 =>
                            (mkref1_ReadRequest (a2)).bind (fun v14 =>
                            (bif ((!decide (v13.2 = v14.2)) || (!decide (v13.1 = v14.1))) then (
                            some (false)) else (
                            (wire_ReadAnswer (a2)).bind (fun v16 =>
                            (mkref1_ReadAnswer (a2)).bind (fun v17 =>
                            some (((decide (v16.2 = v17.2)) && (decide (v16.1 = v17.1))))))))))))))))))))))))

/-- mklaw5.WireUnlike -/
def mklaw5_WireUnlike (a0 : Mk.Request) (a1 : Mk.Request) (a2 : Mk.Answer) (a3 : Mk.Answer) : Option Bool :=
    (mklaw5_alive).bind (fun v1 =>
      (bif (!v1) then (
          some (false)) else (
          (wire_WrongRequest (a0)).bind (fun v3 =>
            (Cn (((decide (v3 = (0 : Int)))) = true) (wire_WrongRequest (a1))).bind (fun v4 =>
              (Cn ((((decide (v3 = (0 : Int))) && (decide (v4 = (0 : Int))))) = true) (wire_Request (a0))).bind (fun v5 =>
                (Cn ((((decide (v3 = (0 : Int))) && (decide (v4 = (0 : Int))))) = true) (wire_Request (a1))).bind (fun v6 =>
                  (bif (((decide (v3 = (0 : Int))) && (decide (v4 = (0 : Int)))) && (!decide ((decide ((bts v5) = (bts v6))) = (decide (a0 = a1))))) then (
                      some (false)) else (
                      (wire_WrongAnswer (a2)).bind (fun v8 =>
                        (Cn (((!decide (v8 = (0 : Int)))) = false) (wire_WrongAnswer (a3))).bind (fun v9 =>
                          (Cn ((((!decide (v8 = (0 : Int))) || (!decide (v9 = (0 : Int))))) = false) (wire_Answer (a2))).bind (fun v10 =>
                            (Cn ((((!decide (v8 = (0 : Int))) || (!decide (v9 = (0 : Int))))) = false) (wire_Answer (a3))).bind (fun v11 =>
                            some ((((!decide (v8 = (0 : Int))) || (!decide (v9 = (0 : Int)))) || (decide ((decide ((bts v10) = (bts v11))) = (decide (a2 = a3)))))))))))))))))))

/-- mklaw5.WireTurns -/
def mklaw5_WireTurns (a0 : Mk.Request) (a1 : Mk.Answer) (a2 : List UInt8) : Option Bool :=
    (mklaw5_alive).bind (fun v1 =>
      (bif (!v1) then (
          some (false)) else (
          J (fun (x2_k3 : List UInt8) (y4_k3 : Mk.Answer) =>
            J (fun (x2_k9 : List UInt8) =>
              (wire_ReadRequest (x2_k9)).bind (fun v15 =>
                (wire_ReadAnswer (x2_k9)).bind (fun v16 =>
                  (Cn (((((!decide (v15.2 = (0 : Int))) || (!decide (v16.2 = (0 : Int))))) = true) ∧ ((!decide (v15.2 = (0 : Int)))) = false) (wire_Request (v15.1))).bind (fun v17 =>
                    (Cn ((((((!decide (v15.2 = (0 : Int))) || (!decide (v16.2 = (0 : Int)))) && ((!decide (v15.2 = (0 : Int))) || (decide ((bts v17) = (bts x2_k9)))))) = true) ∧ ((!decide (v16.2 = (0 : Int)))) = false) (wire_Answer (v16.1))).bind (fun v18 =>
                      some (((((!decide (v15.2 = (0 : Int))) || (!decide (v16.2 = (0 : Int)))) && ((!decide (v15.2 = (0 : Int))) || (decide ((bts v17) = (bts x2_k9))))) && ((!decide (v16.2 = (0 : Int))) || (decide ((bts v18) = (bts x2_k9))))))))))) (fun k9 =>
              (wire_WrongAnswer (y4_k3)).bind (fun v10 =>
                (bif (decide (v10 = (0 : Int))) then (
                    (wire_Answer (y4_k3)).bind (fun v12 =>
                      (wire_ReadAnswer (v12)).bind (fun v13 =>
                        (bif ((!decide (v13.2 = (0 : Int))) || (!decide (v13.1 = y4_k3))) then (
                            some (false)) else (
                            k9 (x2_k3)))))) else (
                    k9 (x2_k3)))))) (fun k3 =>
            (wire_WrongRequest (a0)).bind (fun v4 =>
              (bif (decide (v4 = (0 : Int))) then (
                  (wire_Request (a0)).bind (fun v6 =>
                    (wire_ReadRequest (v6)).bind (fun v7 =>
                      (bif ((!decide (v7.2 = (0 : Int))) || (!decide (v7.1 = a0))) then (
                          some (false)) else (
                          k3 (a2) (a1)))))) else (
                  k3 (a2) (a1))))))))
end Sp
