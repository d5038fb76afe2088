/- WHAT FUNCTIONS OF THE PROGRAM ANSWER, in plain Lean: printed by gen3.py. -/
import Derived.Test.YtkmokkhcoombnaaSp0
namespace Sp
set_option linter.unusedVariables false
def mkref1_WrongCells_l2 (k11 : (List Int) → Int → Option Int) : Nat → (List Int) → Int → Int → Option Int
  | 0, _, _, _ => none
  | m19 + 1, x0_m19, x3_m19, x4_m19 =>
    (bif (decide (x4_m19 < x3_m19)) then (
        G ((0 ≤ x4_m19 ∧ x4_m19 < (x0_m19.length : Int))) (
          G ((0 ≤ x3_m19 ∧ x3_m19 < (x0_m19.length : Int))) (
            (bif (decide ((ix x0_m19 x4_m19) = (ix x0_m19 x3_m19))) then (
                some ((7 : Int))) else (
                G (I (x4_m19 + (2 : Int))) (
                  mkref1_WrongCells_l2 k11 m19 (x0_m19) (x3_m19) ((x4_m19 + (2 : Int))))))))) else (
        k11 (x0_m19) (x3_m19)))

def mkref1_WrongCells_l1 (k5 : Unit → Option Int) : Nat → (List Int) → Int → Option Int
  | 0, _, _ => none
  | m6 + 1, x0_m6, x3_m6 =>
    G ((0 ≤ (0 : Int) ∧ (0 : Int) < (x0_m6.length : Int))) (
      G (I ((2 : Int) * (ix x0_m6 (0 : Int)))) (
        G (I ((1 : Int) + ((2 : Int) * (ix x0_m6 (0 : Int))))) (
          (bif (decide (x3_m6 < ((1 : Int) + ((2 : Int) * (ix x0_m6 (0 : Int)))))) then (
              J (fun (x0_k11 : List Int) (x3_k11 : Int) =>
                G (I (x3_k11 + (2 : Int))) (
                  mkref1_WrongCells_l1 k5 m6 (x0_k11) ((x3_k11 + (2 : Int))))) (fun k11 =>
                G ((0 ≤ x3_m6 ∧ x3_m6 < (x0_m6.length : Int))) (
                  G (((decide ((ix x0_m6 x3_m6) < (1 : Int)))) = false → (0 ≤ x3_m6 ∧ x3_m6 < (x0_m6.length : Int))) (
                    G ((((decide ((ix x0_m6 x3_m6) < (1 : Int))) || (decide ((255 : Int) < (ix x0_m6 x3_m6))))) = false → I (x3_m6 + (1 : Int))) (
                      G ((((decide ((ix x0_m6 x3_m6) < (1 : Int))) || (decide ((255 : Int) < (ix x0_m6 x3_m6))))) = false → (0 ≤ (x3_m6 + (1 : Int)) ∧ (x3_m6 + (1 : Int)) < (x0_m6.length : Int))) (
                        G (((((decide ((ix x0_m6 x3_m6) < (1 : Int))) || (decide ((255 : Int) < (ix x0_m6 x3_m6)))) || (decide ((ix x0_m6 (x3_m6 + (1 : Int))) < (-1073741824 : Int))))) = false → I (x3_m6 + (1 : Int))) (
                          G (((((decide ((ix x0_m6 x3_m6) < (1 : Int))) || (decide ((255 : Int) < (ix x0_m6 x3_m6)))) || (decide ((ix x0_m6 (x3_m6 + (1 : Int))) < (-1073741824 : Int))))) = false → (0 ≤ (x3_m6 + (1 : Int)) ∧ (x3_m6 + (1 : Int)) < (x0_m6.length : Int))) (
                            (bif ((((decide ((ix x0_m6 x3_m6) < (1 : Int))) || (decide ((255 : Int) < (ix x0_m6 x3_m6)))) || (decide ((ix x0_m6 (x3_m6 + (1 : Int))) < (-1073741824 : Int)))) || (decide ((1073741824 : Int) < (ix x0_m6 (x3_m6 + (1 : Int)))))) then (
                            some ((3 : Int))) else (
                            mkref1_WrongCells_l2 k11 ((x3_m6 - (1 : Int)).toNat + 1) (x0_m6) (x3_m6) ((1 : Int)))))))))))) else (
              k5 ())))))

/-- mkref1.WrongCells -/
def mkref1_WrongCells (a0 : List Int) : Option Int :=
    (bif (!decide ((a0.length : Int) = (11 : Int))) then (
        some ((5 : Int))) else (
        G ((0 ≤ (0 : Int) ∧ (0 : Int) < (a0.length : Int))) (
          G (((decide ((ix a0 (0 : Int)) < (0 : Int)))) = false → (0 ≤ (0 : Int) ∧ (0 : Int) < (a0.length : Int))) (
            (bif ((decide ((ix a0 (0 : Int)) < (0 : Int))) || (decide ((5 : Int) < (ix a0 (0 : Int))))) then (
                some ((3 : Int))) else (
                J (fun (_ : Unit) =>
                  some ((0 : Int))) (fun k5 =>
                  mkref1_WrongCells_l1 k5 ((((1 : Int) + ((2 : Int) * (ix a0 (0 : Int)))) - (1 : Int)).toNat + 1) (a0) ((1 : Int)))))))))

/-- mkref1.WrongCall -/
def mkref1_WrongCall (a0 : Mk.Call) : Option Int :=
    (bif ((decide (a0.Kind < (1 : Int))) || (decide ((6 : Int) < a0.Kind))) then (
        some ((1 : Int))) else (
        J (fun (x3_k2 : Int) (x4_k2 : Int) (y1_k2 : Mk.Call) =>
          J (fun (x3_k4 : Int) (x4_k4 : Int) (x5_k4 : Int) (x6_k4 : Int) (y1_k4 : Mk.Call) =>
            (bif ((((decide (y1_k4.Name < x3_k4)) || (decide (x4_k4 < y1_k4.Name))) || (decide (y1_k4.Other < x5_k4))) || (decide (x6_k4 < y1_k4.Other))) then (
                some ((7 : Int))) else (
                J (fun (x7_k7 : Int) (y1_k7 : Mk.Call) =>
                  G (I (-x7_k7)) (
                    (bif ((decide (y1_k7.N < (-x7_k7))) || (decide (x7_k7 < y1_k7.N))) then (
                        some ((3 : Int))) else (
                        some ((0 : Int)))))) (fun k7 =>
                  (bif ((decide (y1_k4.Kind = (1 : Int))) || (decide (y1_k4.Kind = (4 : Int)))) then (
                      k7 ((1073741824 : Int)) (y1_k4)) else (
                      k7 ((0 : Int)) (y1_k4))))))) (fun k4 =>
            (bif (decide (y1_k2.Kind = (6 : Int))) then (
                k4 (x3_k2) (x4_k2) ((1 : Int)) ((255 : Int)) (y1_k2)) else (
                k4 (x3_k2) (x4_k2) ((0 : Int)) ((0 : Int)) (y1_k2))))) (fun k2 =>
          (bif (decide (a0.Kind = (5 : Int))) then (
              k2 ((0 : Int)) ((0 : Int)) (a0)) else (
              k2 ((1 : Int)) ((255 : Int)) (a0))))))

def cell_Find_l1 (k1 : Unit → Option Int) : Nat → (List Int) → Int → Int → Int → Option Int
  | 0, _, _, _, _ => none
  | m3 + 1, x0_m3, x1_m3, x8_m3, x9_m3 =>
    (bif (decide (x9_m3 < x8_m3)) then (
        G (I ((2 : Int) * x9_m3)) (
          G (I ((1 : Int) + ((2 : Int) * x9_m3))) (
            G ((0 ≤ ((1 : Int) + ((2 : Int) * x9_m3)) ∧ ((1 : Int) + ((2 : Int) * x9_m3)) < (x0_m3.length : Int))) (
              (bif (decide ((ix x0_m3 ((1 : Int) + ((2 : Int) * x9_m3))) = x1_m3)) then (
                  some (x9_m3)) else (
                  G (I (x9_m3 + (1 : Int))) (
                    cell_Find_l1 k1 m3 (x0_m3) (x1_m3) (x8_m3) ((x9_m3 + (1 : Int)))))))))) else (
        k1 ()))

/-- cell.Find -/
def cell_Find (a0 : List Int) (a1 : Int) : Option Int :=
    J (fun (_ : Unit) =>
      some ((-1 : Int))) (fun k1 =>
      G ((0 ≤ (0 : Int) ∧ (0 : Int) < (a0.length : Int))) (
        cell_Find_l1 k1 (((ix a0 (0 : Int)) - (0 : Int)).toNat + 1) (a0) (a1) ((ix a0 (0 : Int))) ((0 : Int))))

/-- plan.at -/
def plan_at (a0 : Int) : Option Int :=
    G (I ((2 : Int) * a0)) (
      G (I ((2 : Int) + ((2 : Int) * a0))) (
        some (((2 : Int) + ((2 : Int) * a0)))))

/-- plan.Make -/
def plan_Make (a0 : List Int) (a1 : Mk.Call) : Option ((List Mk.Write) × Mk.Reply) :=
    (cell_Find (a0) (a1.Name)).bind (fun v1 =>
      G ((0 ≤ (0 : Int) ∧ (0 : Int) < (a0.length : Int))) (
        (bif (decide (a1.Kind = (5 : Int))) then (
            some (([] : List Mk.Write), ({ Err := (0 : Int), N := (ix a0 (0 : Int)) } : Mk.Reply))) else (
            (bif (((decide (a1.Kind = (1 : Int))) && (decide (v1 < (0 : Int)))) && (decide ((5 : Int) ≤ (ix a0 (0 : Int))))) then (
                some (([] : List Mk.Write), ({ Err := (9 : Int), N := (0 : Int) } : Mk.Reply))) else (
                (bif ((decide (a1.Kind = (1 : Int))) && (decide (v1 < (0 : Int)))) then (
                    (plan_at ((ix a0 (0 : Int)))).bind (fun v6 =>
                      G (I (v6 - (1 : Int))) (
                        (plan_at ((ix a0 (0 : Int)))).bind (fun v8 =>
                          G (I ((ix a0 (0 : Int)) + (1 : Int))) (
                            some (([({ At := (v6 - (1 : Int)), N := a1.Name } : Mk.Write), ({ At := v8, N := a1.N } : Mk.Write), ({ At := (0 : Int), N := ((ix a0 (0 : Int)) + (1 : Int)) } : Mk.Write)] : List Mk.Write), ({ Err := (0 : Int), N := (0 : Int) } : Mk.Reply))))))) else (
                    (bif (decide (v1 < (0 : Int))) then (
                        some (([] : List Mk.Write), ({ Err := (6 : Int), N := (0 : Int) } : Mk.Reply))) else (
                        (plan_at (v1)).bind (fun v11 =>
                          G ((0 ≤ v11 ∧ v11 < (a0.length : Int))) (
                            (bif (decide (a1.Kind = (1 : Int))) then (
                            (plan_at (v1)).bind (fun v14 =>
                            some (([({ At := v14, N := a1.N } : Mk.Write)] : List Mk.Write), ({ Err := (0 : Int), N := (ix a0 v11) } : Mk.Reply)))) else (
                            (bif (decide (a1.Kind = (3 : Int))) then (
                            G (I ((ix a0 (0 : Int)) - (1 : Int))) (
                            J (fun (x8_k17 : Int) (x9_k17 : List Mk.Write) (y5_k17 : Mk.Reply) =>
                            some (x9_k17, ({ Err := (0 : Int), N := x8_k17 } : Mk.Reply))) (fun k17 =>
                            G (I ((ix a0 (0 : Int)) - (1 : Int))) (
                            (bif (decide (v1 < ((ix a0 (0 : Int)) - (1 : Int)))) then (
                            (plan_at (v1)).bind (fun v20 =>
                            G (I (v20 - (1 : Int))) (
                            G (I ((ix a0 (0 : Int)) - (1 : Int))) (
                            (plan_at (((ix a0 (0 : Int)) - (1 : Int)))).bind (fun v23 =>
                            G (I (v23 - (1 : Int))) (
                            G ((0 ≤ (v23 - (1 : Int)) ∧ (v23 - (1 : Int)) < (a0.length : Int))) (
                            (plan_at (v1)).bind (fun v26 =>
                            G (I ((ix a0 (0 : Int)) - (1 : Int))) (
                            (plan_at (((ix a0 (0 : Int)) - (1 : Int)))).bind (fun v28 =>
                            G ((0 ≤ v28 ∧ v28 < (a0.length : Int))) (
                            G (I ((ix a0 (0 : Int)) - (1 : Int))) (
                            k17 ((ix a0 v11)) (([({ At := (v20 - (1 : Int)), N := (ix a0 (v23 - (1 : Int))) } : Mk.Write), ({ At := v26, N := (ix a0 v28) } : Mk.Write), ({ At := (0 : Int), N := ((ix a0 (0 : Int)) - (1 : Int)) } : Mk.Write)] : List Mk.Write)) (({ Err := (0 : Int), N := (0 : Int) } : Mk.Reply)))))))))))))) else (
                            k17 ((ix a0 v11)) (([({ At := (0 : Int), N := ((ix a0 (0 : Int)) - (1 : Int)) } : Mk.Write)] : List Mk.Write)) (({ Err := (0 : Int), N := (0 : Int) } : Mk.Reply)))))))) else (
                            (bif (decide (a1.Kind = (4 : Int))) then (
                            G (I ((ix a0 v11) + a1.N)) (
                            (bif ((decide ((-1073741824 : Int) ≤ ((ix a0 v11) + a1.N))) && (decide (((ix a0 v11) + a1.N) ≤ (1073741824 : Int)))) then (
                            (plan_at (v1)).bind (fun v34 =>
                            some (([({ At := v34, N := ((ix a0 v11) + a1.N) } : Mk.Write)] : List Mk.Write), ({ Err := (0 : Int), N := ((ix a0 v11) + a1.N) } : Mk.Reply)))) else (
                            some (([] : List Mk.Write), ({ Err := (3 : Int), N := (0 : Int) } : Mk.Reply)))))) else (
                            (bif (decide (a1.Kind = (6 : Int))) then (
                            (cell_Find (a0) (a1.Other)).bind (fun v36 =>
                            (bif (decide (v36 < (0 : Int))) then (
                            some (([] : List Mk.Write), ({ Err := (6 : Int), N := (0 : Int) } : Mk.Reply))) else (
                            (plan_at (v1)).bind (fun v38 =>
                            (plan_at (v36)).bind (fun v39 =>
                            G ((0 ≤ v39 ∧ v39 < (a0.length : Int))) (
                            (plan_at (v36)).bind (fun v41 =>
                            (plan_at (v36)).bind (fun v42 =>
                            G ((0 ≤ v42 ∧ v42 < (a0.length : Int))) (
                            some (([({ At := v38, N := (ix a0 v39) } : Mk.Write), ({ At := v41, N := (ix a0 v11) } : Mk.Write)] : List Mk.Write), ({ Err := (0 : Int), N := (ix a0 v42) } : Mk.Reply)))))))))))) else (
                            some (([] : List Mk.Write), ({ Err := (0 : Int), N := (ix a0 v11) } : Mk.Reply))))))))))))))))))))))

def mkref1_Of_l1 (k1 : (List Mk.Write) → Option ((List Mk.Write))) : Nat → (List Int) → Int → (List Mk.Write) → Option ((List Mk.Write))
  | 0, _, _, _ => none
  | m2 + 1, x0_m2, x4_m2, y1003_m2 =>
    G ((0 ≤ (0 : Int) ∧ (0 : Int) < (x0_m2.length : Int))) (
      G (I ((2 : Int) * (ix x0_m2 (0 : Int)))) (
        G (I ((1 : Int) + ((2 : Int) * (ix x0_m2 (0 : Int))))) (
          (bif (decide (x4_m2 < ((1 : Int) + ((2 : Int) * (ix x0_m2 (0 : Int)))))) then (
              G ((0 ≤ x4_m2 ∧ x4_m2 < (x0_m2.length : Int))) (
                G (I (x4_m2 + (1 : Int))) (
                  G ((0 ≤ (x4_m2 + (1 : Int)) ∧ (x4_m2 + (1 : Int)) < (x0_m2.length : Int))) (
                    G (((y1003_m2.length + ([({ At := (ix x0_m2 x4_m2), N := (ix x0_m2 (x4_m2 + (1 : Int))) } : Mk.Write)] : List Mk.Write).length) * 16 ≤ 140737488355328 ∧ y1003_m2.length + ([({ At := (ix x0_m2 x4_m2), N := (ix x0_m2 (x4_m2 + (1 : Int))) } : Mk.Write)] : List Mk.Write).length ≤ 9223372036854775807)) (
                      G (I (x4_m2 + (2 : Int))) (
                        mkref1_Of_l1 k1 m2 (x0_m2) ((x4_m2 + (2 : Int))) ((y1003_m2 ++ ([({ At := (ix x0_m2 x4_m2), N := (ix x0_m2 (x4_m2 + (1 : Int))) } : Mk.Write)] : List Mk.Write))))))))) else (
              k1 (y1003_m2))))))

/-- mkref1.Of -/
def mkref1_Of (a0 : List Int) : Option ((List Mk.Write)) :=
    J (fun (y1003_k1 : List Mk.Write) =>
      some (y1003_k1)) (fun k1 =>
      mkref1_Of_l1 k1 ((((1 : Int) + ((2 : Int) * (ix a0 (0 : Int)))) - (1 : Int)).toNat + 1) (a0) ((1 : Int)) (([] : List Mk.Write)))

def mkref1_get_l1 (k1 : Unit → Option (Int × Bool)) : Nat → Int → (List Mk.Write) → Int → Int → Option (Int × Bool)
  | 0, _, _, _, _ => none
  | m2 + 1, x1_m2, x8_m2, x9_m2, x10_m2 =>
    (bif (decide (x10_m2 < x9_m2)) then (
        G ((0 ≤ x10_m2 ∧ x10_m2 < (x8_m2.length : Int))) (
          (bif (decide ((ix x8_m2 x10_m2).At = x1_m2)) then (
              some ((ix x8_m2 x10_m2).N, true)) else (
              G (I (x10_m2 + (1 : Int))) (
                mkref1_get_l1 k1 m2 (x1_m2) (x8_m2) (x9_m2) ((x10_m2 + (1 : Int)))))))) else (
        k1 ()))

/-- mkref1.get -/
def mkref1_get (a0 : List Mk.Write) (a1 : Int) : Option (Int × Bool) :=
    J (fun (_ : Unit) =>
      some ((0 : Int), false)) (fun k1 =>
      mkref1_get_l1 k1 (((a0.length : Int) - (0 : Int)).toNat + 1) (a1) (a0) ((a0.length : Int)) ((0 : Int)))

/-- mkref1.Do$1 -/
def mkref1_Do_1 (a0 : Int) (a1 : List Mk.Write) : Option ((List Mk.Write) × Mk.Reply) :=
    some (a1, ({ Err := a0, N := (0 : Int) } : Mk.Reply))

def mkref1_set_l1 (k1 : Int → Int → Bool → (List Mk.Write) → Option ((List Mk.Write))) : Nat → Int → Int → Bool → (List Mk.Write) → Int → Int → (List Mk.Write) → Option ((List Mk.Write))
  | 0, _, _, _, _, _, _, _ => none
  | m2 + 1, x1_m2, x2_m2, x8_m2, x11_m2, x12_m2, x13_m2, y1007_m2 =>
    (bif (decide (x13_m2 < x12_m2)) then (
        G ((0 ≤ x13_m2 ∧ x13_m2 < (x11_m2.length : Int))) (
          J (fun (x1_k5 : Int) (x2_k5 : Int) (x8_k5 : Bool) (x11_k5 : List Mk.Write) (x12_k5 : Int) (x13_k5 : Int) (y10_k5 : Mk.Write) (y1007_k5 : List Mk.Write) =>
            G (((y1007_k5.length + ([y10_k5] : List Mk.Write).length) * 16 ≤ 140737488355328 ∧ y1007_k5.length + ([y10_k5] : List Mk.Write).length ≤ 9223372036854775807)) (
              G (I (x13_k5 + (1 : Int))) (
                mkref1_set_l1 k1 m2 (x1_k5) (x2_k5) (x8_k5) (x11_k5) (x12_k5) ((x13_k5 + (1 : Int))) ((y1007_k5 ++ ([y10_k5] : List Mk.Write)))))) (fun k5 =>
            (bif (decide ((ix x11_m2 x13_m2).At = x1_m2)) then (
                k5 (x1_m2) (x2_m2) (true) (x11_m2) (x12_m2) (x13_m2) ({ (ix x11_m2 x13_m2) with N := x2_m2 }) (y1007_m2)) else (
                k5 (x1_m2) (x2_m2) (x8_m2) (x11_m2) (x12_m2) (x13_m2) ((ix x11_m2 x13_m2)) (y1007_m2)))))) else (
        k1 (x1_m2) (x2_m2) (x8_m2) (y1007_m2)))

/-- mkref1.set -/
def mkref1_set (a0 : List Mk.Write) (a1 : Int) (a2 : Int) : Option ((List Mk.Write)) :=
    J (fun (x1_k1 : Int) (x2_k1 : Int) (x8_k1 : Bool) (y1007_k1 : List Mk.Write) =>
      J (fun (y1007_k9 : List Mk.Write) =>
        some (y1007_k9)) (fun k9 =>
        (bif (!x8_k1) then (
            G (((y1007_k1.length + ([({ At := x1_k1, N := x2_k1 } : Mk.Write)] : List Mk.Write).length) * 16 ≤ 140737488355328 ∧ y1007_k1.length + ([({ At := x1_k1, N := x2_k1 } : Mk.Write)] : List Mk.Write).length ≤ 9223372036854775807)) (
              k9 ((y1007_k1 ++ ([({ At := x1_k1, N := x2_k1 } : Mk.Write)] : List Mk.Write))))) else (
            k9 (y1007_k1))))) (fun k1 =>
      mkref1_set_l1 k1 (((a0.length : Int) - (0 : Int)).toNat + 1) (a1) (a2) (false) (a0) ((a0.length : Int)) ((0 : Int)) (([] : List Mk.Write)))

def mkref1_Do_l1 (k11 : Int → Mk.Reply → (List Mk.Write) → Option ((List Mk.Write) × Mk.Reply)) : Nat → (List Mk.Write) → Int → (List Mk.Write) → Int → Int → Mk.Call → Mk.Reply → (List Mk.Write) → Option ((List Mk.Write) × Mk.Reply)
  | 0, _, _, _, _, _, _, _, _ => none
  | m12 + 1, x2_m12, x6_m12, x76_m12, x77_m12, x78_m12, y3_m12, y5_m12, y1009_m12 =>
    (bif (decide (x78_m12 < x77_m12)) then (
        J (fun (x2_k14 : List Mk.Write) (x6_k14 : Int) (x76_k14 : List Mk.Write) (x77_k14 : Int) (x78_k14 : Int) (y3_k14 : Mk.Call) (y5_k14 : Mk.Reply) (y1009_k14 : List Mk.Write) =>
          G (I (x78_k14 + (1 : Int))) (
            mkref1_Do_l1 k11 m12 (x2_k14) (x6_k14) (x76_k14) (x77_k14) ((x78_k14 + (1 : Int))) (y3_k14) (y5_k14) (y1009_k14))) (fun k14 =>
          G ((0 ≤ x78_m12 ∧ x78_m12 < (x76_m12.length : Int))) (
            J (fun (x2_k16 : List Mk.Write) (x6_k16 : Int) (x10_k16 : Int) (x76_k16 : List Mk.Write) (x77_k16 : Int) (x78_k16 : Int) (y3_k16 : Mk.Call) (y5_k16 : Mk.Reply) (y11_k16 : Mk.Write) (y1009_k16 : List Mk.Write) =>
              G (I ((x2_k16.length : Int) - (1 : Int))) (
                (bif (decide (x10_k16 < ((x2_k16.length : Int) - (1 : Int)))) then (
                    G (((y1009_k16.length + ([y11_k16] : List Mk.Write).length) * 16 ≤ 140737488355328 ∧ y1009_k16.length + ([y11_k16] : List Mk.Write).length ≤ 9223372036854775807)) (
                      k14 (x2_k16) (x6_k16) (x76_k16) (x77_k16) (x78_k16) (y3_k16) (y5_k16) ((y1009_k16 ++ ([y11_k16] : List Mk.Write))))) else (
                    k14 (x2_k16) (x6_k16) (x76_k16) (x77_k16) (x78_k16) (y3_k16) (y5_k16) (y1009_k16))))) (fun k16 =>
              (bif (decide ((ix x76_m12 x78_m12).At = y3_m12.Name)) then (
                  G (I ((x2_m12.length : Int) - (1 : Int))) (
                    G ((0 ≤ ((x2_m12.length : Int) - (1 : Int)) ∧ ((x2_m12.length : Int) - (1 : Int)) < (x2_m12.length : Int))) (
                      k16 (x2_m12) (x6_m12) (x78_m12) (x76_m12) (x77_m12) (x78_m12) (y3_m12) (y5_m12) ((ix x2_m12 ((x2_m12.length : Int) - (1 : Int)))) (y1009_m12)))) else (
                  k16 (x2_m12) (x6_m12) (x78_m12) (x76_m12) (x77_m12) (x78_m12) (y3_m12) (y5_m12) ((ix x76_m12 x78_m12)) (y1009_m12))))))) else (
        k11 (x6_m12) (y5_m12) (y1009_m12)))

/-- mkref1.Do -/
def mkref1_Do (a0 : List Mk.Write) (a1 : Mk.Call) : Option ((List Mk.Write) × Mk.Reply) :=
    (mkref1_get (a0) (a1.Name)).bind (fun v1 =>
      (bif (decide (a1.Kind = (5 : Int))) then (
          some (a0, ({ Err := (0 : Int), N := (a0.length : Int) } : Mk.Reply))) else (
          (bif (((decide (a1.Kind = (1 : Int))) && (!v1.2)) && (decide ((5 : Int) ≤ (a0.length : Int)))) then (
              (mkref1_Do_1 ((9 : Int)) (a0)).bind (fun v4 =>
                some (v4.1, v4.2))) else (
              (bif (decide (a1.Kind = (1 : Int))) then (
                  (mkref1_set (a0) (a1.Name) (a1.N)).bind (fun v6 =>
                    some (v6, ({ Err := (0 : Int), N := v1.1 } : Mk.Reply)))) else (
                  (bif (!v1.2) then (
                      (mkref1_Do_1 ((6 : Int)) (a0)).bind (fun v8 =>
                        some (v8.1, v8.2))) else (
                      (bif (decide (a1.Kind = (2 : Int))) then (
                          some (a0, ({ Err := (0 : Int), N := v1.1 } : Mk.Reply))) else (
                          (bif (decide (a1.Kind = (3 : Int))) then (
                            J (fun (x6_k11 : Int) (y5_k11 : Mk.Reply) (y1009_k11 : List Mk.Write) =>
                            some (y1009_k11, ({ Err := (0 : Int), N := x6_k11 } : Mk.Reply))) (fun k11 =>
                            mkref1_Do_l1 k11 (((a0.length : Int) - (0 : Int)).toNat + 1) (a0) (v1.1) (a0) ((a0.length : Int)) ((0 : Int)) (a1) (({ Err := (0 : Int), N := (0 : Int) } : Mk.Reply)) (([] : List Mk.Write)))) else (
                            (bif (decide (a1.Kind = (4 : Int))) then (
                            G (I (v1.1 + a1.N)) (
                            G (((decide ((1073741824 : Int) < (v1.1 + a1.N)))) = false → I (v1.1 + a1.N)) (
                            (bif ((decide ((1073741824 : Int) < (v1.1 + a1.N))) || (decide ((v1.1 + a1.N) < (-1073741824 : Int)))) then (
                            (mkref1_Do_1 ((3 : Int)) (a0)).bind (fun v28 =>
                            some (v28.1, v28.2))) else (
                            G (I (v1.1 + a1.N)) (
                            (mkref1_set (a0) (a1.Name) ((v1.1 + a1.N))).bind (fun v30 =>
                            G (I (v1.1 + a1.N)) (
                            some (v30, ({ Err := (0 : Int), N := (v1.1 + a1.N) } : Mk.Reply)))))))))) else (
                            (mkref1_get (a0) (a1.Other)).bind (fun v32 =>
                            (bif (!v32.2) then (
                            (mkref1_Do_1 ((6 : Int)) (a0)).bind (fun v34 =>
                            some (v34.1, v34.2))) else (
                            (mkref1_set (a0) (a1.Name) (v32.1)).bind (fun v35 =>
                            (mkref1_set (v35) (a1.Other) (v1.1)).bind (fun v36 =>
                            some (v36, ({ Err := (0 : Int), N := v32.1 } : Mk.Reply))))))))))))))))))))))

def mkref1_Find_l1 (k1 : Unit → Option Int) : Nat → (List Int) → Int → Int → Option Int
  | 0, _, _, _ => none
  | m2 + 1, x0_m2, x1_m2, x5_m2 =>
    G ((0 ≤ (0 : Int) ∧ (0 : Int) < (x0_m2.length : Int))) (
      G (I ((2 : Int) * (ix x0_m2 (0 : Int)))) (
        G (I ((1 : Int) + ((2 : Int) * (ix x0_m2 (0 : Int))))) (
          (bif (decide (x5_m2 < ((1 : Int) + ((2 : Int) * (ix x0_m2 (0 : Int)))))) then (
              G ((0 ≤ x5_m2 ∧ x5_m2 < (x0_m2.length : Int))) (
                (bif (decide ((ix x0_m2 x5_m2) = x1_m2)) then (
                    G (((2 : Int) ≠ 0 ∧ I (Int.tdiv x5_m2 (2 : Int)))) (
                      some ((Int.tdiv x5_m2 (2 : Int))))) else (
                    G (I (x5_m2 + (2 : Int))) (
                      mkref1_Find_l1 k1 m2 (x0_m2) (x1_m2) ((x5_m2 + (2 : Int)))))))) else (
              k1 ())))))

/-- mkref1.Find -/
def mkref1_Find (a0 : List Int) (a1 : Int) : Option Int :=
    J (fun (_ : Unit) =>
      some ((-1 : Int))) (fun k1 =>
      mkref1_Find_l1 k1 ((((1 : Int) + ((2 : Int) * (ix a0 (0 : Int)))) - (1 : Int)).toNat + 1) (a0) (a1) ((1 : Int)))

/-- mkref1.Plan -/
def mkref1_Plan (a0 : List Int) (a1 : Mk.Call) : Option ((List Mk.Write) × Mk.Reply) :=
    (mkref1_Of (a0)).bind (fun v1 =>
      (mkref1_Do (v1) (a1)).bind (fun v2 =>
        (bif (!decide (v2.2.Err = (0 : Int))) then (
            some (([] : List Mk.Write), v2.2)) else (
            (mkref1_Find (a0) (a1.Name)).bind (fun v4 =>
              J (fun (x6_k5 : List Mk.Write) (x7_k5 : List Mk.Write) (y5_k5 : Mk.Reply) (y8_k5 : Mk.Reply) (y1009_k5 : List Mk.Write) =>
                J (fun (y5_k29 : Mk.Reply) (y8_k29 : Mk.Reply) (y1009_k29 : List Mk.Write) =>
                  some (y1009_k29, y8_k29)) (fun k29 =>
                  (bif (!decide ((x7_k5.length : Int) = (x6_k5.length : Int))) then (
                      G (((y1009_k5.length + ([({ At := (0 : Int), N := (x7_k5.length : Int) } : Mk.Write)] : List Mk.Write).length) * 16 ≤ 140737488355328 ∧ y1009_k5.length + ([({ At := (0 : Int), N := (x7_k5.length : Int) } : Mk.Write)] : List Mk.Write).length ≤ 9223372036854775807)) (
                        k29 (y5_k5) (y8_k5) ((y1009_k5 ++ ([({ At := (0 : Int), N := (x7_k5.length : Int) } : Mk.Write)] : List Mk.Write))))) else (
                      k29 (y5_k5) (y8_k5) (y1009_k5))))) (fun k5 =>
                (bif (decide (a1.Kind = (6 : Int))) then (
                    (mkref1_Find (a0) (a1.Other)).bind (fun v7 =>
                      G (I ((2 : Int) * v4)) (
                        G (I ((2 : Int) + ((2 : Int) * v4))) (
                          G ((0 ≤ v4 ∧ v4 < (v2.1.length : Int))) (
                            G (I ((2 : Int) * v7)) (
                            G (I ((2 : Int) + ((2 : Int) * v7))) (
                            G ((0 ≤ v7 ∧ v7 < (v2.1.length : Int))) (
                            some (([({ At := ((2 : Int) + ((2 : Int) * v4)), N := (ix v2.1 v4).N } : Mk.Write), ({ At := ((2 : Int) + ((2 : Int) * v7)), N := (ix v2.1 v7).N } : Mk.Write)] : List Mk.Write), v2.2))))))))) else (
                    (bif ((decide (a1.Kind = (3 : Int))) && (decide (v4 < (v2.1.length : Int)))) then (
                        G (I ((2 : Int) * v4)) (
                          G (I ((1 : Int) + ((2 : Int) * v4))) (
                            G ((0 ≤ v4 ∧ v4 < (v2.1.length : Int))) (
                            G (I ((2 : Int) * v4)) (
                            G (I ((2 : Int) + ((2 : Int) * v4))) (
                            G ((0 ≤ v4 ∧ v4 < (v2.1.length : Int))) (
                            k5 (v1) (v2.1) (({ Err := (0 : Int), N := (0 : Int) } : Mk.Reply)) (v2.2) (([({ At := ((1 : Int) + ((2 : Int) * v4)), N := (ix v2.1 v4).At } : Mk.Write), ({ At := ((2 : Int) + ((2 : Int) * v4)), N := (ix v2.1 v4).N } : Mk.Write)] : List Mk.Write))))))))) else (
                        (bif ((decide (a1.Kind = (1 : Int))) && (decide (v4 < (0 : Int)))) then (
                            G (I ((2 : Int) * (v2.1.length : Int))) (
                            G (I (((2 : Int) * (v2.1.length : Int)) - (1 : Int))) (
                            G (I ((2 : Int) * (v2.1.length : Int))) (
                            k5 (v1) (v2.1) (({ Err := (0 : Int), N := (0 : Int) } : Mk.Reply)) (v2.2) (([({ At := (((2 : Int) * (v2.1.length : Int)) - (1 : Int)), N := a1.Name } : Mk.Write), ({ At := ((2 : Int) * (v2.1.length : Int)), N := a1.N } : Mk.Write)] : List Mk.Write)))))) else (
                            (bif ((decide (a1.Kind = (1 : Int))) || (decide (a1.Kind = (4 : Int)))) then (
                            G (I ((2 : Int) * v4)) (
                            G (I ((2 : Int) + ((2 : Int) * v4))) (
                            G ((0 ≤ v4 ∧ v4 < (v2.1.length : Int))) (
                            some (([({ At := ((2 : Int) + ((2 : Int) * v4)), N := (ix v2.1 v4).N } : Mk.Write)] : List Mk.Write), v2.2))))) else (
                            k5 (v1) (v2.1) (({ Err := (0 : Int), N := (0 : Int) } : Mk.Reply)) (v2.2) (([] : List Mk.Write))))))))))))))))

def mkref1_SameWrites_l1 (k2 : Unit → Option Bool) : Nat → (List Mk.Write) → (List Mk.Write) → Int → Int → Option Bool
  | 0, _, _, _, _ => none
  | m3 + 1, x0_m3, x1_m3, x12_m3, x13_m3 =>
    (bif (decide (x13_m3 < x12_m3)) then (
        G ((0 ≤ x13_m3 ∧ x13_m3 < (x0_m3.length : Int))) (
          G ((0 ≤ x13_m3 ∧ x13_m3 < (x1_m3.length : Int))) (
            (bif (!decide ((ix x0_m3 x13_m3) = (ix x1_m3 x13_m3))) then (
                some (false)) else (
                G (I (x13_m3 + (1 : Int))) (
                  mkref1_SameWrites_l1 k2 m3 (x0_m3) (x1_m3) (x12_m3) ((x13_m3 + (1 : Int))))))))) else (
        k2 ()))

/-- mkref1.SameWrites -/
def mkref1_SameWrites (a0 : List Mk.Write) (a1 : List Mk.Write) : Option Bool :=
    (bif (!decide ((a0.length : Int) = (a1.length : Int))) then (
        some (false)) else (
        J (fun (_ : Unit) =>
          some (true)) (fun k2 =>
          mkref1_SameWrites_l1 k2 (((a0.length : Int) - (0 : Int)).toNat + 1) (a0) (a1) ((a0.length : Int)) ((0 : Int)))))

def mkref1_Set_l2 (k5 : (List Mk.Write) → Int → (List Int) → Int → Int → (List Int) → Option ((List Int))) : Nat → (List Mk.Write) → Int → Int → (List Int) → Int → Int → (List Mk.Write) → Int → Int → (List Int) → Option ((List Int))
  | 0, _, _, _, _, _, _, _, _, _, _ => none
  | m6 + 1, x1_m6, x6_m6, x7_m6, x10_m6, x11_m6, x12_m6, x17_m6, x18_m6, x19_m6, y1005_m6 =>
    (bif (decide (x19_m6 < x18_m6)) then (
        J (fun (x1_k8 : List Mk.Write) (x6_k8 : Int) (x7_k8 : Int) (x10_k8 : List Int) (x11_k8 : Int) (x12_k8 : Int) (x17_k8 : List Mk.Write) (x18_k8 : Int) (x19_k8 : Int) (y1005_k8 : List Int) =>
          G (I (x19_k8 + (1 : Int))) (
            mkref1_Set_l2 k5 m6 (x1_k8) (x6_k8) (x7_k8) (x10_k8) (x11_k8) (x12_k8) (x17_k8) (x18_k8) ((x19_k8 + (1 : Int))) (y1005_k8))) (fun k8 =>
          G ((0 ≤ x19_m6 ∧ x19_m6 < (x17_m6.length : Int))) (
            (bif (decide ((ix x17_m6 x19_m6).At = x6_m6)) then (
                k8 (x1_m6) (x6_m6) ((ix x17_m6 x19_m6).N) (x10_m6) (x11_m6) (x12_m6) (x17_m6) (x18_m6) (x19_m6) (y1005_m6)) else (
                k8 (x1_m6) (x6_m6) (x7_m6) (x10_m6) (x11_m6) (x12_m6) (x17_m6) (x18_m6) (x19_m6) (y1005_m6)))))) else (
        k5 (x1_m6) (x7_m6) (x10_m6) (x11_m6) (x12_m6) (y1005_m6)))

def mkref1_Set_l1 (k1 : (List Int) → Option ((List Int))) : Nat → (List Mk.Write) → (List Int) → Int → Int → (List Int) → Option ((List Int))
  | 0, _, _, _, _, _ => none
  | m2 + 1, x1_m2, x10_m2, x11_m2, x12_m2, y1005_m2 =>
    (bif (decide (x12_m2 < x11_m2)) then (
        G ((0 ≤ x12_m2 ∧ x12_m2 < (x10_m2.length : Int))) (
          J (fun (x1_k5 : List Mk.Write) (x7_k5 : Int) (x10_k5 : List Int) (x11_k5 : Int) (x12_k5 : Int) (y1005_k5 : List Int) =>
            G (((y1005_k5.length + ([x7_k5] : List Int).length) * 8 ≤ 140737488355328 ∧ y1005_k5.length + ([x7_k5] : List Int).length ≤ 9223372036854775807)) (
              G (I (x12_k5 + (1 : Int))) (
                mkref1_Set_l1 k1 m2 (x1_k5) (x10_k5) (x11_k5) ((x12_k5 + (1 : Int))) ((y1005_k5 ++ ([x7_k5] : List Int)))))) (fun k5 =>
            mkref1_Set_l2 k5 (((x1_m2.length : Int) - (0 : Int)).toNat + 1) (x1_m2) (x12_m2) ((ix x10_m2 x12_m2)) (x10_m2) (x11_m2) (x12_m2) (x1_m2) ((x1_m2.length : Int)) ((0 : Int)) (y1005_m2)))) else (
        k1 (y1005_m2)))

/-- mkref1.Set -/
def mkref1_Set (a0 : List Int) (a1 : List Mk.Write) : Option ((List Int)) :=
    J (fun (y1005_k1 : List Int) =>
      some (y1005_k1)) (fun k1 =>
      mkref1_Set_l1 k1 (((a0.length : Int) - (0 : Int)).toNat + 1) (a1) (a0) ((a0.length : Int)) ((0 : Int)) (([] : List Int)))

def mkref1_Set2_l1 (k1 : (List Int) → Option ((List Int))) : Nat → (List Int) → (List Mk.Write) → Int → Int → Option ((List Int))
  | 0, _, _, _, _ => none
  | m2 + 1, x0_m2, x7_m2, x8_m2, x9_m2 =>
    (bif (decide (x9_m2 < x8_m2)) then (
        G ((0 ≤ x9_m2 ∧ x9_m2 < (x7_m2.length : Int))) (
          (mkref1_Set (x0_m2) (([(ix x7_m2 x9_m2)] : List Mk.Write))).bind (fun v5 =>
            G (I (x9_m2 + (1 : Int))) (
              mkref1_Set2_l1 k1 m2 (v5) (x7_m2) (x8_m2) ((x9_m2 + (1 : Int))))))) else (
        k1 (x0_m2)))

/-- mkref1.Set2 -/
def mkref1_Set2 (a0 : List Int) (a1 : List Mk.Write) : Option ((List Int)) :=
    J (fun (x0_k1 : List Int) =>
      some (x0_k1)) (fun k1 =>
      mkref1_Set2_l1 k1 (((a1.length : Int) - (0 : Int)).toNat + 1) (a0) (a1) ((a1.length : Int)) ((0 : Int)))

/-- mklaw4.alive -/
def mklaw4_alive  : Option Bool :=
    G ((0 ≤ (11 : Int) ∧ (11 : Int) = (11 : Int) ∧ (11 : Int) ≤ 16777216)) (
      (plan_Make ((List.replicate (Int.toNat (11 : Int)) (0 : Int))) (({ Kind := (1 : Int), Name := (7 : Int), Other := (0 : Int), N := (5 : Int) } : Mk.Call))).bind (fun v2 =>
        G (((decide ((v2.1.length : Int) = (3 : Int)))) = true → (0 ≤ (2 : Int) ∧ (2 : Int) < (v2.1.length : Int))) (
          some ((((decide ((v2.1.length : Int) = (3 : Int))) && (decide ((ix v2.1 (2 : Int)) = ({ At := (0 : Int), N := (1 : Int) } : Mk.Write)))) && (decide (v2.2.Err = (0 : Int))))))))

/-- mklaw4.PlanTells -/
def mklaw4_PlanTells (a0 : List Int) (a1 : Mk.Call) : Option Bool :=
    (mkref1_WrongCells (a0)).bind (fun v1 =>
      (Cn (((!decide (v1 = (0 : Int)))) = false) (mkref1_WrongCall (a1))).bind (fun v2 =>
        (bif ((!decide (v1 = (0 : Int))) || (!decide (v2 = (0 : Int)))) then (
            some (true)) else (
            (plan_Make (a0) (a1)).bind (fun v4 =>
              (mkref1_Plan (a0) (a1)).bind (fun v5 =>
                (Cn (((decide (v4.2 = v5.2))) = true) (mkref1_SameWrites (v4.1) (v5.1))).bind (fun v6 =>
                  some (((decide (v4.2 = v5.2)) && v6)))))))))

/-- mklaw4.PlanModel -/
def mklaw4_PlanModel (a0 : List Int) (a1 : Mk.Call) : Option Bool :=
    (mklaw4_alive).bind (fun v1 =>
      (bif (!v1) then (
          some (false)) else (
          (mkref1_WrongCells (a0)).bind (fun v3 =>
            (Cn (((!decide (v3 = (0 : Int)))) = false) (mkref1_WrongCall (a1))).bind (fun v4 =>
              (bif ((!decide (v3 = (0 : Int))) || (!decide (v4 = (0 : Int)))) then (
                  some (true)) else (
                  (plan_Make (a0) (a1)).bind (fun v6 =>
                    (mkref1_Set2 (a0) (v6.1)).bind (fun v7 =>
                      (mkref1_Of (a0)).bind (fun v8 =>
                        (mkref1_Do (v8) (a1)).bind (fun v9 =>
                          (Cn (((decide (v6.2 = v9.2))) = true) (mkref1_WrongCells (v7))).bind (fun v10 =>
                            (Cn ((((decide (v6.2 = v9.2)) && (decide (v10 = (0 : Int))))) = true) (mkref1_Of (v7))).bind (fun v11 =>
                            (Cn ((((decide (v6.2 = v9.2)) && (decide (v10 = (0 : Int))))) = true) (mkref1_SameWrites (v11) (v9.1))).bind (fun v12 =>
                            some (((((decide (v6.2 = v9.2)) && (decide (v10 = (0 : Int)))) && v12) && (decide ((v6.1.length : Int) ≤ (3 : Int)))))))))))))))))))

/-- mklaw4.PlanLate -/
def mklaw4_PlanLate (a0 : List Int) (a1 : Mk.Call) (a2 : Int) : Option Bool :=
    (mklaw4_alive).bind (fun v1 =>
      (bif (!v1) then (
          some (false)) else (
          (mkref1_WrongCells (a0)).bind (fun v3 =>
            (Cn (((!decide (v3 = (0 : Int)))) = false) (mkref1_WrongCall (a1))).bind (fun v4 =>
              (bif ((!decide (v3 = (0 : Int))) || (!decide (v4 = (0 : Int)))) then (
                  some (true)) else (
                  (plan_Make (a0) (a1)).bind (fun v6 =>
                    (bif ((decide (a2 < (0 : Int))) || (decide ((v6.1.length : Int) ≤ a2))) then (
                        some (true)) else (
                        G ((0 ≤ (0 : Int) ∧ (0 : Int) ≤ a2 ∧ a2 ≤ (v6.1.length : Int))) (
                          (mkref1_Set2 (a0) ((sub v6.1 (0 : Int) a2))).bind (fun v9 =>
                            G ((0 ≤ (0 : Int) ∧ (0 : Int) < (v9.length : Int))) (
                            G ((0 ≤ (0 : Int) ∧ (0 : Int) < (a0.length : Int))) (
                            (bif (!decide ((ix v9 (0 : Int)) = (ix a0 (0 : Int)))) then (
                            some (false)) else (
                            (Cn (((!decide (a1.Kind = (1 : Int)))) = false) (mkref1_Of (v9))).bind (fun v13 =>
                            (Cn (((!decide (a1.Kind = (1 : Int)))) = false) (mkref1_Of (a0))).bind (fun v14 =>
                            (Cn (((!decide (a1.Kind = (1 : Int)))) = false) (mkref1_SameWrites (v13) (v14))).bind (fun v15 =>
                            some (((!decide (a1.Kind = (1 : Int))) || v15)))))))))))))))))))))
end Sp
