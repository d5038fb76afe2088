/- WHAT FUNCTIONS OF THE PROGRAM ANSWER, in plain Lean: printed by gen3.py. -/
import Derived.Test.YtkmokkhcoombnaaSpPlan
namespace Sp
set_option linter.unusedVariables false
/-- cell.New -/
def cell_New  : Option ((List Int)) :=
    G ((0 ≤ (11 : Int) ∧ (11 : Int) = (11 : Int) ∧ (11 : Int) ≤ 16777216)) (
      some ((List.replicate (Int.toNat (11 : Int)) (0 : Int))))

def mkref1_SameInts_l1 (k2 : Unit → Option Bool) : Nat → (List Int) → (List Int) → Int → Int → Option Bool
  | 0, _, _, _, _ => none
  | m3 + 1, x0_m3, x1_m3, x12_m3, x13_m3 =>
    (bif (decide (x13_m3 < x12_m3)) then (
        G ((0 ≤ x13_m3 ∧ x13_m3 < (x0_m3.length : Int))) (
          G ((0 ≤ x13_m3 ∧ x13_m3 < (x1_m3.length : Int))) (
            (bif (!decide ((ix x0_m3 x13_m3) = (ix x1_m3 x13_m3))) then (
                some (false)) else (
                G (I (x13_m3 + (1 : Int))) (
                  mkref1_SameInts_l1 k2 m3 (x0_m3) (x1_m3) (x12_m3) ((x13_m3 + (1 : Int))))))))) else (
        k2 ()))

/-- mkref1.SameInts -/
def mkref1_SameInts (a0 : List Int) (a1 : List Int) : Option Bool :=
    (bif (!decide ((a0.length : Int) = (a1.length : Int))) then (
        some (false)) else (
        J (fun (_ : Unit) =>
          some (true)) (fun k2 =>
          mkref1_SameInts_l1 k2 (((a0.length : Int) - (0 : Int)).toNat + 1) (a0) (a1) ((a0.length : Int)) ((0 : Int)))))

/-- slices.Clone[[]int,int] -/
def slices_Clone___int_int_ (a0 : List Int) : Option ((List Int)) :=
    G (((([] : List Int).length + a0.length) * 8 ≤ 140737488355328 ∧ ([] : List Int).length + a0.length ≤ 9223372036854775807)) (
      some ((([] : List Int) ++ a0)))

/-- slices.Clone[[]api.Write,api.Write] -/
def slices_Clone___api_Write_api_Write_ (a0 : List Mk.Write) : Option ((List Mk.Write)) :=
    G (((([] : List Mk.Write).length + a0.length) * 16 ≤ 140737488355328 ∧ ([] : List Mk.Write).length + a0.length ≤ 9223372036854775807)) (
      some ((([] : List Mk.Write) ++ a0)))

def slices_Index___int_int__l1 (k1 : Unit → Option Int) : Nat → (List Int) → Int → Int → Int → Option Int
  | 0, _, _, _, _ => none
  | m2 + 1, x0_m2, x1_m2, x7_m2, x8_m2 =>
    (bif (decide (x8_m2 < x7_m2)) then (
        G ((0 ≤ x8_m2 ∧ x8_m2 < (x0_m2.length : Int))) (
          (bif (decide (x1_m2 = (ix x0_m2 x8_m2))) then (
              some (x8_m2)) else (
              G (I (x8_m2 + (1 : Int))) (
                slices_Index___int_int__l1 k1 m2 (x0_m2) (x1_m2) (x7_m2) ((x8_m2 + (1 : Int)))))))) else (
        k1 ()))

/-- slices.Index[[]int,int] -/
def slices_Index___int_int_ (a0 : List Int) (a1 : Int) : Option Int :=
    J (fun (_ : Unit) =>
      some ((-1 : Int))) (fun k1 =>
      slices_Index___int_int__l1 k1 (((a0.length : Int) - (0 : Int)).toNat + 1) (a0) (a1) ((a0.length : Int)) ((0 : Int)))

/-- slices.Contains[[]int,int] -/
def slices_Contains___int_int_ (a0 : List Int) (a1 : Int) : Option Bool :=
    (slices_Index___int_int_ (a0) (a1)).bind (fun v1 =>
      some ((decide ((0 : Int) ≤ v1))))

def cell_Wrong_l1 (k5 : Unit → Option Int) : Nat → (List Int) → Int → (List Int) → Option Int
  | 0, _, _, _ => none
  | m6 + 1, x0_m6, x20_m6, y1003_m6 =>
    (bif (decide (x20_m6 < (5 : Int))) then (
        J (fun (x0_k8 : List Int) (x20_k8 : Int) (y1003_k8 : List Int) =>
          G (I (x20_k8 + (1 : Int))) (
            cell_Wrong_l1 k5 m6 (x0_k8) ((x20_k8 + (1 : Int))) (y1003_k8))) (fun k8 =>
          G (I ((2 : Int) * x20_m6)) (
            G (I ((1 : Int) + ((2 : Int) * x20_m6))) (
              G ((0 ≤ ((1 : Int) + ((2 : Int) * x20_m6)) ∧ ((1 : Int) + ((2 : Int) * x20_m6)) < (x0_m6.length : Int))) (
                G (I ((2 : Int) * x20_m6)) (
                  G (I ((2 : Int) + ((2 : Int) * x20_m6))) (
                    G ((0 ≤ ((2 : Int) + ((2 : Int) * x20_m6)) ∧ ((2 : Int) + ((2 : Int) * x20_m6)) < (x0_m6.length : Int))) (
                      G ((0 ≤ (0 : Int) ∧ (0 : Int) < (x0_m6.length : Int))) (
                        (bif (decide ((ix x0_m6 (0 : Int)) ≤ x20_m6)) then (
                            k8 (x0_m6) (x20_m6) (y1003_m6)) else (
                            (bif ((((decide ((ix x0_m6 ((1 : Int) + ((2 : Int) * x20_m6))) < (1 : Int))) || (decide ((255 : Int) < (ix x0_m6 ((1 : Int) + ((2 : Int) * x20_m6)))))) || (decide ((ix x0_m6 ((2 : Int) + ((2 : Int) * x20_m6))) < (-1073741824 : Int)))) || (decide ((1073741824 : Int) < (ix x0_m6 ((2 : Int) + ((2 : Int) * x20_m6)))))) then (
                            some ((3 : Int))) else (
                            (slices_Contains___int_int_ (y1003_m6) ((ix x0_m6 ((1 : Int) + ((2 : Int) * x20_m6))))).bind (fun v18 =>
                            (bif v18 then (
                            some ((7 : Int))) else (
                            G (((y1003_m6.length + ([(ix x0_m6 ((1 : Int) + ((2 : Int) * x20_m6)))] : List Int).length) * 8 ≤ 140737488355328 ∧ y1003_m6.length + ([(ix x0_m6 ((1 : Int) + ((2 : Int) * x20_m6)))] : List Int).length ≤ 9223372036854775807)) (
                            k8 (x0_m6) (x20_m6) ((y1003_m6 ++ ([(ix x0_m6 ((1 : Int) + ((2 : Int) * x20_m6)))] : List Int)))))))))))))))))))) else (
        k5 ()))

/-- cell.Wrong -/
def cell_Wrong (a0 : List Int) : Option Int :=
    (bif (!decide ((a0.length : Int) = (11 : Int))) then (
        some ((5 : Int))) else (
        G ((0 ≤ (0 : Int) ∧ (0 : Int) < (a0.length : Int))) (
          G (((decide ((ix a0 (0 : Int)) < (0 : Int)))) = false → (0 ≤ (0 : Int) ∧ (0 : Int) < (a0.length : Int))) (
            (bif ((decide ((ix a0 (0 : Int)) < (0 : Int))) || (decide ((5 : Int) < (ix a0 (0 : Int))))) then (
                some ((3 : Int))) else (
                J (fun (_ : Unit) =>
                  some ((0 : Int))) (fun k5 =>
                  cell_Wrong_l1 k5 (((5 : Int) - (0 : Int)).toNat + 1) (a0) ((0 : Int)) (([] : List Int)))))))))

def cell_Set_l1 (k2 : (List Int) → Option ((List Int))) : Nat → (List Mk.Write) → Int → Int → (List Int) → Option ((List Int))
  | 0, _, _, _, _ => none
  | m3 + 1, x10_m3, x11_m3, x12_m3, y9_m3 =>
    (bif (decide (x12_m3 < x11_m3)) then (
        J (fun (x10_k5 : List Mk.Write) (x11_k5 : Int) (x12_k5 : Int) (y9_k5 : List Int) =>
          G (I (x12_k5 + (1 : Int))) (
            cell_Set_l1 k2 m3 (x10_k5) (x11_k5) ((x12_k5 + (1 : Int))) (y9_k5))) (fun k5 =>
          G ((0 ≤ x12_m3 ∧ x12_m3 < (x10_m3.length : Int))) (
            (bif ((decide ((0 : Int) ≤ (ix x10_m3 x12_m3).At)) && (decide ((ix x10_m3 x12_m3).At < (y9_m3.length : Int)))) then (
                G ((0 ≤ (ix x10_m3 x12_m3).At ∧ (ix x10_m3 x12_m3).At < (y9_m3.length : Int))) (
                  k5 (x10_m3) (x11_m3) (x12_m3) ((up y9_m3 (ix x10_m3 x12_m3).At (ix x10_m3 x12_m3).N)))) else (
                k5 (x10_m3) (x11_m3) (x12_m3) (y9_m3)))))) else (
        k2 (y9_m3)))

/-- cell.Set -/
def cell_Set (a0 : List Int) (a1 : List Mk.Write) : Option ((List Int)) :=
    (slices_Clone___int_int_ (a0)).bind (fun v1 =>
      J (fun (y9_k2 : List Int) =>
        some (y9_k2)) (fun k2 =>
        cell_Set_l1 k2 (((a1.length : Int) - (0 : Int)).toNat + 1) (a1) ((a1.length : Int)) ((0 : Int)) (v1)))

def slices_Reverse___api_Write_api_Write__l1 : Nat → Int → Int → (List Mk.Write) → Option ((List Mk.Write))
  | 0, _, _, _ => none
  | m2 + 1, x2_m2, x3_m2, y600_m2 =>
    (bif (decide (x2_m2 < x3_m2)) then (
        G ((0 ≤ x3_m2 ∧ x3_m2 < (y600_m2.length : Int))) (
          G ((0 ≤ x2_m2 ∧ x2_m2 < (y600_m2.length : Int))) (
            G ((0 ≤ x2_m2 ∧ x2_m2 < (y600_m2.length : Int))) (
              G ((0 ≤ x3_m2 ∧ x3_m2 < ((up y600_m2 x2_m2 (ix y600_m2 x3_m2)).length : Int))) (
                G (I (x2_m2 + (1 : Int))) (
                  G (I (x3_m2 - (1 : Int))) (
                    slices_Reverse___api_Write_api_Write__l1  m2 ((x2_m2 + (1 : Int))) ((x3_m2 - (1 : Int))) ((up (up y600_m2 x2_m2 (ix y600_m2 x3_m2)) x3_m2 (ix y600_m2 x2_m2)))))))))) else (
        some (y600_m2)))

/-- slices.Reverse[[]api.Write,api.Write] -/
def slices_Reverse___api_Write_api_Write_ (a0 : List Mk.Write) : Option ((List Mk.Write)) :=
    G (I ((a0.length : Int) - (1 : Int))) (
      slices_Reverse___api_Write_api_Write__l1  ((((a0.length : Int) - (1 : Int)) - (0 : Int)).toNat + 1) ((0 : Int)) (((a0.length : Int) - (1 : Int))) (a0))

def cell_Undo_l1 (k2 : (List Mk.Write) → Option ((List Mk.Write))) : Nat → (List Mk.Write) → Int → Int → (List Int) → (List Mk.Write) → Option ((List Mk.Write))
  | 0, _, _, _, _, _ => none
  | m3 + 1, x11_m3, x12_m3, x13_m3, y10_m3, y1006_m3 =>
    (bif (decide (x13_m3 < x12_m3)) then (
        J (fun (x11_k5 : List Mk.Write) (x12_k5 : Int) (x13_k5 : Int) (y10_k5 : List Int) (y1006_k5 : List Mk.Write) =>
          G (I (x13_k5 + (1 : Int))) (
            cell_Undo_l1 k2 m3 (x11_k5) (x12_k5) ((x13_k5 + (1 : Int))) (y10_k5) (y1006_k5))) (fun k5 =>
          G ((0 ≤ x13_m3 ∧ x13_m3 < (x11_m3.length : Int))) (
            (bif ((decide ((ix x11_m3 x13_m3).At < (0 : Int))) || (decide ((y10_m3.length : Int) ≤ (ix x11_m3 x13_m3).At))) then (
                k5 (x11_m3) (x12_m3) (x13_m3) (y10_m3) (y1006_m3)) else (
                G ((0 ≤ (ix x11_m3 x13_m3).At ∧ (ix x11_m3 x13_m3).At < (y10_m3.length : Int))) (
                  G (((y1006_m3.length + ([({ At := (ix x11_m3 x13_m3).At, N := (ix y10_m3 (ix x11_m3 x13_m3).At) } : Mk.Write)] : List Mk.Write).length) * 16 ≤ 140737488355328 ∧ y1006_m3.length + ([({ At := (ix x11_m3 x13_m3).At, N := (ix y10_m3 (ix x11_m3 x13_m3).At) } : Mk.Write)] : List Mk.Write).length ≤ 9223372036854775807)) (
                    G ((0 ≤ (ix x11_m3 x13_m3).At ∧ (ix x11_m3 x13_m3).At < (y10_m3.length : Int))) (
                      k5 (x11_m3) (x12_m3) (x13_m3) ((up y10_m3 (ix x11_m3 x13_m3).At (ix x11_m3 x13_m3).N)) ((y1006_m3 ++ ([({ At := (ix x11_m3 x13_m3).At, N := (ix y10_m3 (ix x11_m3 x13_m3).At) } : Mk.Write)] : List Mk.Write))))))))))) else (
        k2 (y1006_m3)))

/-- cell.Undo -/
def cell_Undo (a0 : List Int) (a1 : List Mk.Write) : Option ((List Mk.Write)) :=
    (slices_Clone___int_int_ (a0)).bind (fun v1 =>
      J (fun (y1006_k2 : List Mk.Write) =>
        (slices_Reverse___api_Write_api_Write_ (y1006_k2)).bind (fun v12 =>
          some (v12))) (fun k2 =>
        cell_Undo_l1 k2 (((a1.length : Int) - (0 : Int)).toNat + 1) (a1) ((a1.length : Int)) ((0 : Int)) (v1) (([] : List Mk.Write))))

def mkref1_Undo_l1 (k1 : (List Mk.Write) → Option ((List Mk.Write))) : Nat → (List Int) → (List Mk.Write) → (List Mk.Write) → (List Mk.Write) → Int → Int → Option ((List Mk.Write))
  | 0, _, _, _, _, _, _ => none
  | m2 + 1, x0_m2, x1_m2, x5_m2, x8_m2, x9_m2, x10_m2 =>
    (bif (decide (x10_m2 < x9_m2)) then (
        J (fun (x0_k4 : List Int) (x1_k4 : List Mk.Write) (x5_k4 : List Mk.Write) (x8_k4 : List Mk.Write) (x9_k4 : Int) (x10_k4 : Int) =>
          G (I (x10_k4 + (1 : Int))) (
            mkref1_Undo_l1 k1 m2 (x0_k4) (x1_k4) (x5_k4) (x8_k4) (x9_k4) ((x10_k4 + (1 : Int))))) (fun k4 =>
          G ((0 ≤ x10_m2 ∧ x10_m2 < (x8_m2.length : Int))) (
            (bif ((decide ((0 : Int) ≤ (ix x8_m2 x10_m2).At)) && (decide ((ix x8_m2 x10_m2).At < (x0_m2.length : Int)))) then (
                G ((0 ≤ (0 : Int) ∧ (0 : Int) ≤ x10_m2 ∧ x10_m2 ≤ (x1_m2.length : Int))) (
                  (mkref1_Set (x0_m2) ((sub x1_m2 (0 : Int) x10_m2))).bind (fun v8 =>
                    G ((0 ≤ (ix x8_m2 x10_m2).At ∧ (ix x8_m2 x10_m2).At < (v8.length : Int))) (
                      G (((([({ At := (ix x8_m2 x10_m2).At, N := (ix v8 (ix x8_m2 x10_m2).At) } : Mk.Write)] : List Mk.Write).length + x5_m2.length) * 16 ≤ 140737488355328 ∧ ([({ At := (ix x8_m2 x10_m2).At, N := (ix v8 (ix x8_m2 x10_m2).At) } : Mk.Write)] : List Mk.Write).length + x5_m2.length ≤ 9223372036854775807)) (
                        k4 (x0_m2) (x1_m2) ((([({ At := (ix x8_m2 x10_m2).At, N := (ix v8 (ix x8_m2 x10_m2).At) } : Mk.Write)] : List Mk.Write) ++ x5_m2)) (x8_m2) (x9_m2) (x10_m2)))))) else (
                k4 (x0_m2) (x1_m2) (x5_m2) (x8_m2) (x9_m2) (x10_m2)))))) else (
        k1 (x5_m2)))

/-- mkref1.Undo -/
def mkref1_Undo (a0 : List Int) (a1 : List Mk.Write) : Option ((List Mk.Write)) :=
    J (fun (x5_k1 : List Mk.Write) =>
      some (x5_k1)) (fun k1 =>
      mkref1_Undo_l1 k1 (((a1.length : Int) - (0 : Int)).toNat + 1) (a0) (a1) (([] : List Mk.Write)) (a1) ((a1.length : Int)) ((0 : Int)))
end Sp
