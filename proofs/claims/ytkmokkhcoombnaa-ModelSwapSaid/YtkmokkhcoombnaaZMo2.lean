/- WHAT THE STATEMENTS OF THIS GROUP NEED, part 2: laid together by prune.py out of own texts. -/
import Derived.Test.YtkmokkhcoombnaaZMo1
section
namespace Sp
set_option linter.unusedVariables false
def mkref1_WrongCells_l2 (k11 : (List Int) → Int → Option Int) : Nat → (List Int) → Int → Int → Option Int
  | 0, _, _, _ => none
  | m19 + 1, x0_m19, x3_m19, x4_m19 =>
    (bif (decide (x4_m19 < x3_m19)) then (
        G ((0 ≤ x4_m19 ∧ x4_m19 < (x0_m19.length : Int))) (
          G ((0 ≤ x3_m19 ∧ x3_m19 < (x0_m19.length : Int))) (
            (bif (decide ((ix x0_m19 x4_m19) = (ix x0_m19 x3_m19))) then (
                some ((7 : Int))) else (
                G (I (x4_m19 + (2 : Int))) (
                  mkref1_WrongCells_l2 k11 m19 (x0_m19) (x3_m19) ((x4_m19 + (2 : Int))))))))) else (
        k11 (x0_m19) (x3_m19)))
def mkref1_WrongCells_l1 (k5 : Unit → Option Int) : Nat → (List Int) → Int → Option Int
  | 0, _, _ => none
  | m6 + 1, x0_m6, x3_m6 =>
    G ((0 ≤ (0 : Int) ∧ (0 : Int) < (x0_m6.length : Int))) (
      G (I ((2 : Int) * (ix x0_m6 (0 : Int)))) (
        G (I ((1 : Int) + ((2 : Int) * (ix x0_m6 (0 : Int))))) (
          (bif (decide (x3_m6 < ((1 : Int) + ((2 : Int) * (ix x0_m6 (0 : Int)))))) then (
              J (fun (x0_k11 : List Int) (x3_k11 : Int) =>
                G (I (x3_k11 + (2 : Int))) (
                  mkref1_WrongCells_l1 k5 m6 (x0_k11) ((x3_k11 + (2 : Int))))) (fun k11 =>
                G ((0 ≤ x3_m6 ∧ x3_m6 < (x0_m6.length : Int))) (
                  G (((decide ((ix x0_m6 x3_m6) < (1 : Int)))) = false → (0 ≤ x3_m6 ∧ x3_m6 < (x0_m6.length : Int))) (
                    G ((((decide ((ix x0_m6 x3_m6) < (1 : Int))) || (decide ((255 : Int) < (ix x0_m6 x3_m6))))) = false → I (x3_m6 + (1 : Int))) (
                      G ((((decide ((ix x0_m6 x3_m6) < (1 : Int))) || (decide ((255 : Int) < (ix x0_m6 x3_m6))))) = false → (0 ≤ (x3_m6 + (1 : Int)) ∧ (x3_m6 + (1 : Int)) < (x0_m6.length : Int))) (
                        G (((((decide ((ix x0_m6 x3_m6) < (1 : Int))) || (decide ((255 : Int) < (ix x0_m6 x3_m6)))) || (decide ((ix x0_m6 (x3_m6 + (1 : Int))) < (-1073741824 : Int))))) = false → I (x3_m6 + (1 : Int))) (
                          G (((((decide ((ix x0_m6 x3_m6) < (1 : Int))) || (decide ((255 : Int) < (ix x0_m6 x3_m6)))) || (decide ((ix x0_m6 (x3_m6 + (1 : Int))) < (-1073741824 : Int))))) = false → (0 ≤ (x3_m6 + (1 : Int)) ∧ (x3_m6 + (1 : Int)) < (x0_m6.length : Int))) (
                            (bif ((((decide ((ix x0_m6 x3_m6) < (1 : Int))) || (decide ((255 : Int) < (ix x0_m6 x3_m6)))) || (decide ((ix x0_m6 (x3_m6 + (1 : Int))) < (-1073741824 : Int)))) || (decide ((1073741824 : Int) < (ix x0_m6 (x3_m6 + (1 : Int)))))) then (
                            some ((3 : Int))) else (
                            mkref1_WrongCells_l2 k11 ((x3_m6 - (1 : Int)).toNat + 1) (x0_m6) (x3_m6) ((1 : Int)))))))))))) else (
              k5 ())))))
def mkref1_WrongCells (a0 : List Int) : Option Int :=
    (bif (!decide ((a0.length : Int) = (11 : Int))) then (
        some ((5 : Int))) else (
        G ((0 ≤ (0 : Int) ∧ (0 : Int) < (a0.length : Int))) (
          G (((decide ((ix a0 (0 : Int)) < (0 : Int)))) = false → (0 ≤ (0 : Int) ∧ (0 : Int) < (a0.length : Int))) (
            (bif ((decide ((ix a0 (0 : Int)) < (0 : Int))) || (decide ((5 : Int) < (ix a0 (0 : Int))))) then (
                some ((3 : Int))) else (
                J (fun (_ : Unit) =>
                  some ((0 : Int))) (fun k5 =>
                  mkref1_WrongCells_l1 k5 ((((1 : Int) + ((2 : Int) * (ix a0 (0 : Int)))) - (1 : Int)).toNat + 1) (a0) ((1 : Int)))))))))
def mkref1_WrongCall (a0 : Mk.Call) : Option Int :=
    (bif ((decide (a0.Kind < (1 : Int))) || (decide ((6 : Int) < a0.Kind))) then (
        some ((1 : Int))) else (
        J (fun (x3_k2 : Int) (x4_k2 : Int) (y1_k2 : Mk.Call) =>
          J (fun (x3_k4 : Int) (x4_k4 : Int) (x5_k4 : Int) (x6_k4 : Int) (y1_k4 : Mk.Call) =>
            (bif ((((decide (y1_k4.Name < x3_k4)) || (decide (x4_k4 < y1_k4.Name))) || (decide (y1_k4.Other < x5_k4))) || (decide (x6_k4 < y1_k4.Other))) then (
                some ((7 : Int))) else (
                J (fun (x7_k7 : Int) (y1_k7 : Mk.Call) =>
                  G (I (-x7_k7)) (
                    (bif ((decide (y1_k7.N < (-x7_k7))) || (decide (x7_k7 < y1_k7.N))) then (
                        some ((3 : Int))) else (
                        some ((0 : Int)))))) (fun k7 =>
                  (bif ((decide (y1_k4.Kind = (1 : Int))) || (decide (y1_k4.Kind = (4 : Int)))) then (
                      k7 ((1073741824 : Int)) (y1_k4)) else (
                      k7 ((0 : Int)) (y1_k4))))))) (fun k4 =>
            (bif (decide (y1_k2.Kind = (6 : Int))) then (
                k4 (x3_k2) (x4_k2) ((1 : Int)) ((255 : Int)) (y1_k2)) else (
                k4 (x3_k2) (x4_k2) ((0 : Int)) ((0 : Int)) (y1_k2))))) (fun k2 =>
          (bif (decide (a0.Kind = (5 : Int))) then (
              k2 ((0 : Int)) ((0 : Int)) (a0)) else (
              k2 ((1 : Int)) ((255 : Int)) (a0))))))
def mkref1_Of_l1 (k1 : (List Mk.Write) → Option ((List Mk.Write))) : Nat → (List Int) → Int → (List Mk.Write) → Option ((List Mk.Write))
  | 0, _, _, _ => none
  | m2 + 1, x0_m2, x4_m2, y1003_m2 =>
    G ((0 ≤ (0 : Int) ∧ (0 : Int) < (x0_m2.length : Int))) (
      G (I ((2 : Int) * (ix x0_m2 (0 : Int)))) (
        G (I ((1 : Int) + ((2 : Int) * (ix x0_m2 (0 : Int))))) (
          (bif (decide (x4_m2 < ((1 : Int) + ((2 : Int) * (ix x0_m2 (0 : Int)))))) then (
              G ((0 ≤ x4_m2 ∧ x4_m2 < (x0_m2.length : Int))) (
                G (I (x4_m2 + (1 : Int))) (
                  G ((0 ≤ (x4_m2 + (1 : Int)) ∧ (x4_m2 + (1 : Int)) < (x0_m2.length : Int))) (
                    G (((y1003_m2.length + ([({ At := (ix x0_m2 x4_m2), N := (ix x0_m2 (x4_m2 + (1 : Int))) } : Mk.Write)] : List Mk.Write).length) * 16 ≤ 140737488355328 ∧ y1003_m2.length + ([({ At := (ix x0_m2 x4_m2), N := (ix x0_m2 (x4_m2 + (1 : Int))) } : Mk.Write)] : List Mk.Write).length ≤ 9223372036854775807)) (
                      G (I (x4_m2 + (2 : Int))) (
                        mkref1_Of_l1 k1 m2 (x0_m2) ((x4_m2 + (2 : Int))) ((y1003_m2 ++ ([({ At := (ix x0_m2 x4_m2), N := (ix x0_m2 (x4_m2 + (1 : Int))) } : Mk.Write)] : List Mk.Write))))))))) else (
              k1 (y1003_m2))))))
def mkref1_Of (a0 : List Int) : Option ((List Mk.Write)) :=
    J (fun (y1003_k1 : List Mk.Write) =>
      some (y1003_k1)) (fun k1 =>
      mkref1_Of_l1 k1 ((((1 : Int) + ((2 : Int) * (ix a0 (0 : Int)))) - (1 : Int)).toNat + 1) (a0) ((1 : Int)) (([] : List Mk.Write)))
def mkref1_get_l1 (k1 : Unit → Option (Int × Bool)) : Nat → Int → (List Mk.Write) → Int → Int → Option (Int × Bool)
  | 0, _, _, _, _ => none
  | m2 + 1, x1_m2, x8_m2, x9_m2, x10_m2 =>
    (bif (decide (x10_m2 < x9_m2)) then (
        G ((0 ≤ x10_m2 ∧ x10_m2 < (x8_m2.length : Int))) (
          (bif (decide ((ix x8_m2 x10_m2).At = x1_m2)) then (
              some ((ix x8_m2 x10_m2).N, true)) else (
              G (I (x10_m2 + (1 : Int))) (
                mkref1_get_l1 k1 m2 (x1_m2) (x8_m2) (x9_m2) ((x10_m2 + (1 : Int)))))))) else (
        k1 ()))
def mkref1_get (a0 : List Mk.Write) (a1 : Int) : Option (Int × Bool) :=
    J (fun (_ : Unit) =>
      some ((0 : Int), false)) (fun k1 =>
      mkref1_get_l1 k1 (((a0.length : Int) - (0 : Int)).toNat + 1) (a1) (a0) ((a0.length : Int)) ((0 : Int)))
def mkref1_Do_1 (a0 : Int) (a1 : List Mk.Write) : Option ((List Mk.Write) × Mk.Reply) :=
    some (a1, ({ Err := a0, N := (0 : Int) } : Mk.Reply))
def mkref1_set_l1 (k1 : Int → Int → Bool → (List Mk.Write) → Option ((List Mk.Write))) : Nat → Int → Int → Bool → (List Mk.Write) → Int → Int → (List Mk.Write) → Option ((List Mk.Write))
  | 0, _, _, _, _, _, _, _ => none
  | m2 + 1, x1_m2, x2_m2, x8_m2, x11_m2, x12_m2, x13_m2, y1007_m2 =>
    (bif (decide (x13_m2 < x12_m2)) then (
        G ((0 ≤ x13_m2 ∧ x13_m2 < (x11_m2.length : Int))) (
          J (fun (x1_k5 : Int) (x2_k5 : Int) (x8_k5 : Bool) (x11_k5 : List Mk.Write) (x12_k5 : Int) (x13_k5 : Int) (y10_k5 : Mk.Write) (y1007_k5 : List Mk.Write) =>
            G (((y1007_k5.length + ([y10_k5] : List Mk.Write).length) * 16 ≤ 140737488355328 ∧ y1007_k5.length + ([y10_k5] : List Mk.Write).length ≤ 9223372036854775807)) (
              G (I (x13_k5 + (1 : Int))) (
                mkref1_set_l1 k1 m2 (x1_k5) (x2_k5) (x8_k5) (x11_k5) (x12_k5) ((x13_k5 + (1 : Int))) ((y1007_k5 ++ ([y10_k5] : List Mk.Write)))))) (fun k5 =>
            (bif (decide ((ix x11_m2 x13_m2).At = x1_m2)) then (
                k5 (x1_m2) (x2_m2) (true) (x11_m2) (x12_m2) (x13_m2) ({ (ix x11_m2 x13_m2) with N := x2_m2 }) (y1007_m2)) else (
                k5 (x1_m2) (x2_m2) (x8_m2) (x11_m2) (x12_m2) (x13_m2) ((ix x11_m2 x13_m2)) (y1007_m2)))))) else (
        k1 (x1_m2) (x2_m2) (x8_m2) (y1007_m2)))
def mkref1_set (a0 : List Mk.Write) (a1 : Int) (a2 : Int) : Option ((List Mk.Write)) :=
    J (fun (x1_k1 : Int) (x2_k1 : Int) (x8_k1 : Bool) (y1007_k1 : List Mk.Write) =>
      J (fun (y1007_k9 : List Mk.Write) =>
        some (y1007_k9)) (fun k9 =>
        (bif (!x8_k1) then (
            G (((y1007_k1.length + ([({ At := x1_k1, N := x2_k1 } : Mk.Write)] : List Mk.Write).length) * 16 ≤ 140737488355328 ∧ y1007_k1.length + ([({ At := x1_k1, N := x2_k1 } : Mk.Write)] : List Mk.Write).length ≤ 9223372036854775807)) (
              k9 ((y1007_k1 ++ ([({ At := x1_k1, N := x2_k1 } : Mk.Write)] : List Mk.Write))))) else (
            k9 (y1007_k1))))) (fun k1 =>
      mkref1_set_l1 k1 (((a0.length : Int) - (0 : Int)).toNat + 1) (a1) (a2) (false) (a0) ((a0.length : Int)) ((0 : Int)) (([] : List Mk.Write)))
def mkref1_Do_l1 (k11 : Int → Mk.Reply → (List Mk.Write) → Option ((List Mk.Write) × Mk.Reply)) : Nat → (List Mk.Write) → Int → (List Mk.Write) → Int → Int → Mk.Call → Mk.Reply → (List Mk.Write) → Option ((List Mk.Write) × Mk.Reply)
  | 0, _, _, _, _, _, _, _, _ => none
  | m12 + 1, x2_m12, x6_m12, x76_m12, x77_m12, x78_m12, y3_m12, y5_m12, y1009_m12 =>
    (bif (decide (x78_m12 < x77_m12)) then (
        J (fun (x2_k14 : List Mk.Write) (x6_k14 : Int) (x76_k14 : List Mk.Write) (x77_k14 : Int) (x78_k14 : Int) (y3_k14 : Mk.Call) (y5_k14 : Mk.Reply) (y1009_k14 : List Mk.Write) =>
          G (I (x78_k14 + (1 : Int))) (
            mkref1_Do_l1 k11 m12 (x2_k14) (x6_k14) (x76_k14) (x77_k14) ((x78_k14 + (1 : Int))) (y3_k14) (y5_k14) (y1009_k14))) (fun k14 =>
          G ((0 ≤ x78_m12 ∧ x78_m12 < (x76_m12.length : Int))) (
            J (fun (x2_k16 : List Mk.Write) (x6_k16 : Int) (x10_k16 : Int) (x76_k16 : List Mk.Write) (x77_k16 : Int) (x78_k16 : Int) (y3_k16 : Mk.Call) (y5_k16 : Mk.Reply) (y11_k16 : Mk.Write) (y1009_k16 : List Mk.Write) =>
              G (I ((x2_k16.length : Int) - (1 : Int))) (
                (bif (decide (x10_k16 < ((x2_k16.length : Int) - (1 : Int)))) then (
                    G (((y1009_k16.length + ([y11_k16] : List Mk.Write).length) * 16 ≤ 140737488355328 ∧ y1009_k16.length + ([y11_k16] : List Mk.Write).length ≤ 9223372036854775807)) (
                      k14 (x2_k16) (x6_k16) (x76_k16) (x77_k16) (x78_k16) (y3_k16) (y5_k16) ((y1009_k16 ++ ([y11_k16] : List Mk.Write))))) else (
                    k14 (x2_k16) (x6_k16) (x76_k16) (x77_k16) (x78_k16) (y3_k16) (y5_k16) (y1009_k16))))) (fun k16 =>
              (bif (decide ((ix x76_m12 x78_m12).At = y3_m12.Name)) then (
                  G (I ((x2_m12.length : Int) - (1 : Int))) (
                    G ((0 ≤ ((x2_m12.length : Int) - (1 : Int)) ∧ ((x2_m12.length : Int) - (1 : Int)) < (x2_m12.length : Int))) (
                      k16 (x2_m12) (x6_m12) (x78_m12) (x76_m12) (x77_m12) (x78_m12) (y3_m12) (y5_m12) ((ix x2_m12 ((x2_m12.length : Int) - (1 : Int)))) (y1009_m12)))) else (
                  k16 (x2_m12) (x6_m12) (x78_m12) (x76_m12) (x77_m12) (x78_m12) (y3_m12) (y5_m12) ((ix x76_m12 x78_m12)) (y1009_m12))))))) else (
        k11 (x6_m12) (y5_m12) (y1009_m12)))
def mkref1_Do (a0 : List Mk.Write) (a1 : Mk.Call) : Option ((List Mk.Write) × Mk.Reply) :=
    (mkref1_get (a0) (a1.Name)).bind (fun v1 =>
      (bif (decide (a1.Kind = (5 : Int))) then (
          some (a0, ({ Err := (0 : Int), N := (a0.length : Int) } : Mk.Reply))) else (
          (bif (((decide (a1.Kind = (1 : Int))) && (!v1.2)) && (decide ((5 : Int) ≤ (a0.length : Int)))) then (
              (mkref1_Do_1 ((9 : Int)) (a0)).bind (fun v4 =>
                some (v4.1, v4.2))) else (
              (bif (decide (a1.Kind = (1 : Int))) then (
                  (mkref1_set (a0) (a1.Name) (a1.N)).bind (fun v6 =>
                    some (v6, ({ Err := (0 : Int), N := v1.1 } : Mk.Reply)))) else (
                  (bif (!v1.2) then (
                      (mkref1_Do_1 ((6 : Int)) (a0)).bind (fun v8 =>
                        some (v8.1, v8.2))) else (
                      (bif (decide (a1.Kind = (2 : Int))) then (
                          some (a0, ({ Err := (0 : Int), N := v1.1 } : Mk.Reply))) else (
                          (bif (decide (a1.Kind = (3 : Int))) then (
                            J (fun (x6_k11 : Int) (y5_k11 : Mk.Reply) (y1009_k11 : List Mk.Write) =>
                            some (y1009_k11, ({ Err := (0 : Int), N := x6_k11 } : Mk.Reply))) (fun k11 =>
                            mkref1_Do_l1 k11 (((a0.length : Int) - (0 : Int)).toNat + 1) (a0) (v1.1) (a0) ((a0.length : Int)) ((0 : Int)) (a1) (({ Err := (0 : Int), N := (0 : Int) } : Mk.Reply)) (([] : List Mk.Write)))) else (
                            (bif (decide (a1.Kind = (4 : Int))) then (
                            G (I (v1.1 + a1.N)) (
                            G (((decide ((1073741824 : Int) < (v1.1 + a1.N)))) = false → I (v1.1 + a1.N)) (
                            (bif ((decide ((1073741824 : Int) < (v1.1 + a1.N))) || (decide ((v1.1 + a1.N) < (-1073741824 : Int)))) then (
                            (mkref1_Do_1 ((3 : Int)) (a0)).bind (fun v28 =>
                            some (v28.1, v28.2))) else (
                            G (I (v1.1 + a1.N)) (
                            (mkref1_set (a0) (a1.Name) ((v1.1 + a1.N))).bind (fun v30 =>
                            G (I (v1.1 + a1.N)) (
                            some (v30, ({ Err := (0 : Int), N := (v1.1 + a1.N) } : Mk.Reply)))))))))) else (
                            (mkref1_get (a0) (a1.Other)).bind (fun v32 =>
                            (bif (!v32.2) then (
                            (mkref1_Do_1 ((6 : Int)) (a0)).bind (fun v34 =>
                            some (v34.1, v34.2))) else (
                            (mkref1_set (a0) (a1.Name) (v32.1)).bind (fun v35 =>
                            (mkref1_set (v35) (a1.Other) (v1.1)).bind (fun v36 =>
                            some (v36, ({ Err := (0 : Int), N := v32.1 } : Mk.Reply))))))))))))))))))))))
def mkref1_SameWrites_l1 (k2 : Unit → Option Bool) : Nat → (List Mk.Write) → (List Mk.Write) → Int → Int → Option Bool
  | 0, _, _, _, _ => none
  | m3 + 1, x0_m3, x1_m3, x12_m3, x13_m3 =>
    (bif (decide (x13_m3 < x12_m3)) then (
        G ((0 ≤ x13_m3 ∧ x13_m3 < (x0_m3.length : Int))) (
          G ((0 ≤ x13_m3 ∧ x13_m3 < (x1_m3.length : Int))) (
            (bif (!decide ((ix x0_m3 x13_m3) = (ix x1_m3 x13_m3))) then (
                some (false)) else (
                G (I (x13_m3 + (1 : Int))) (
                  mkref1_SameWrites_l1 k2 m3 (x0_m3) (x1_m3) (x12_m3) ((x13_m3 + (1 : Int))))))))) else (
        k2 ()))
def mkref1_SameWrites (a0 : List Mk.Write) (a1 : List Mk.Write) : Option Bool :=
    (bif (!decide ((a0.length : Int) = (a1.length : Int))) then (
        some (false)) else (
        J (fun (_ : Unit) =>
          some (true)) (fun k2 =>
          mkref1_SameWrites_l1 k2 (((a0.length : Int) - (0 : Int)).toNat + 1) (a0) (a1) ((a0.length : Int)) ((0 : Int)))))
end Sp
end
section
namespace Sp
set_option linter.unusedVariables false
def slices_Clone___api_Write_api_Write_ (a0 : List Mk.Write) : Option ((List Mk.Write)) :=
    G (((([] : List Mk.Write).length + a0.length) * 16 ≤ 140737488355328 ∧ ([] : List Mk.Write).length + a0.length ≤ 9223372036854775807)) (
      some ((([] : List Mk.Write) ++ a0)))
end Sp
end
section
namespace Sp
set_option linter.unusedVariables false
def model_Wrong_1 (a0 : Int) : Option Bool :=
    some (((decide ((1 : Int) ≤ a0)) && (decide (a0 ≤ (255 : Int)))))
def model_Wrong (a0 : Mk.Call) : Option Int :=
    (bif ((decide (a0.Kind < (1 : Int))) || (decide ((6 : Int) < a0.Kind))) then (
        some ((1 : Int))) else (
        J (fun (x13_k2 : Bool) (y1_k2 : Mk.Call) =>
          (bif x13_k2 then (
              some ((7 : Int))) else (
              (bif (((decide (y1_k2.N < (-1073741824 : Int))) || (decide ((1073741824 : Int) < y1_k2.N))) || (((!decide (y1_k2.Kind = (1 : Int))) && (!decide (y1_k2.Kind = (4 : Int)))) && (!decide (y1_k2.N = (0 : Int))))) then (
                  some ((3 : Int))) else (
                  some ((0 : Int))))))) (fun k2 =>
          (model_Wrong_1 (a0.Name)).bind (fun v3 =>
            (bif ((!decide ((!decide (a0.Kind = (5 : Int))) = v3)) || ((decide (a0.Kind = (5 : Int))) && (!decide (a0.Name = (0 : Int))))) then (
                k2 (((!decide ((!decide (a0.Kind = (5 : Int))) = v3)) || ((decide (a0.Kind = (5 : Int))) && (!decide (a0.Name = (0 : Int)))))) (a0)) else (
                (model_Wrong_1 (a0.Other)).bind (fun v5 =>
                  k2 (((!decide ((decide (a0.Kind = (6 : Int))) = v5)) || ((!decide (a0.Kind = (6 : Int))) && (!decide (a0.Other = (0 : Int)))))) (a0))))))))
end Sp
end
section
namespace Sp
set_option linter.unusedVariables false
def mkref1_All_l1 (k1 : (List Mk.Write) → (List Mk.Reply) → Option ((List Mk.Write) × (List Mk.Reply))) : Nat → (List Mk.Write) → (List Mk.Request) → Int → Int → (List Mk.Reply) → Option ((List Mk.Write) × (List Mk.Reply))
  | 0, _, _, _, _, _ => none
  | m2 + 1, x4_m2, x10_m2, x11_m2, x12_m2, y1005_m2 =>
    (bif (decide (x12_m2 < x11_m2)) then (
        G ((0 ≤ x12_m2 ∧ x12_m2 < (x10_m2.length : Int))) (
          (mkref1_Do (x4_m2) ((ix x10_m2 x12_m2).Call)).bind (fun v5 =>
            G (((y1005_m2.length + ([v5.2] : List Mk.Reply).length) * 16 ≤ 140737488355328 ∧ y1005_m2.length + ([v5.2] : List Mk.Reply).length ≤ 9223372036854775807)) (
              G (I (x12_m2 + (1 : Int))) (
                mkref1_All_l1 k1 m2 (v5.1) (x10_m2) (x11_m2) ((x12_m2 + (1 : Int))) ((y1005_m2 ++ ([v5.2] : List Mk.Reply)))))))) else (
        k1 (x4_m2) (y1005_m2)))
def mkref1_All (a0 : List Mk.Request) : Option ((List Mk.Write) × (List Mk.Reply)) :=
    J (fun (x4_k1 : List Mk.Write) (y1005_k1 : List Mk.Reply) =>
      some (x4_k1, y1005_k1)) (fun k1 =>
      mkref1_All_l1 k1 (((a0.length : Int) - (0 : Int)).toNat + 1) (([] : List Mk.Write)) (a0) ((a0.length : Int)) ((0 : Int)) (([] : List Mk.Reply)))
end Sp
end
section
namespace Sp
set_option linter.unusedVariables false
def model_entry_1 (a0 : Mk.Write) (a1 : Int) : Option Bool :=
    some ((decide (a0.At = a1)))
def slices_IndexFunc___api_Write_api_Write__entry_l1 (a2 : Int) (k1 : Unit → Option Int) : Nat → (List Mk.Write) → Int → Int → Option Int
  | 0, _, _, _ => none
  | m2 + 1, x0_m2, x7_m2, x8_m2 =>
    (bif (decide (x8_m2 < x7_m2)) then (
        G ((0 ≤ x8_m2 ∧ x8_m2 < (x0_m2.length : Int))) (
          (model_entry_1 ((ix x0_m2 x8_m2)) (a2)).bind (fun v5 =>
            (bif v5 then (
                some (x8_m2)) else (
                G (I (x8_m2 + (1 : Int))) (
                  slices_IndexFunc___api_Write_api_Write__entry_l1 a2 k1 m2 (x0_m2) (x7_m2) ((x8_m2 + (1 : Int))))))))) else (
        k1 ()))
def slices_IndexFunc___api_Write_api_Write__entry (a0 : List Mk.Write) (a2 : Int) : Option Int :=
    J (fun (_ : Unit) =>
      some ((-1 : Int))) (fun k1 =>
      slices_IndexFunc___api_Write_api_Write__entry_l1 a2 k1 (((a0.length : Int) - (0 : Int)).toNat + 1) (a0) ((a0.length : Int)) ((0 : Int)))
def model_entry (a0 : List Mk.Write) (a1 : Int) : Option Int :=
    (slices_IndexFunc___api_Write_api_Write__entry (a0) (a1)).bind (fun v1 =>
      some (v1))
def model_Do (a0 : List Mk.Write) (a1 : Mk.Call) : Option ((List Mk.Write) × Mk.Reply) :=
    (slices_Clone___api_Write_api_Write_ (a0)).bind (fun v1 =>
      (model_entry (v1) (a1.Name)).bind (fun v2 =>
        J (fun (x7_k3 : Int) (x8_k3 : Int) (y3_k3 : Mk.Call) (y5_k3 : Mk.Reply) (y13_k3 : List Mk.Write) =>
          (bif (decide (y3_k3.Kind = (5 : Int))) then (
              some (y13_k3, ({ Err := (0 : Int), N := (y13_k3.length : Int) } : Mk.Reply))) else (
              (bif (decide (y3_k3.Kind = (1 : Int))) then (
                  (bif ((decide (x7_k3 < (0 : Int))) && (decide ((5 : Int) ≤ (y13_k3.length : Int)))) then (
                      some (y13_k3, ({ Err := (9 : Int), N := (0 : Int) } : Mk.Reply))) else (
                      (bif (decide (x7_k3 < (0 : Int))) then (
                          G (((y13_k3.length + ([({ At := y3_k3.Name, N := y3_k3.N } : Mk.Write)] : List Mk.Write).length) * 16 ≤ 140737488355328 ∧ y13_k3.length + ([({ At := y3_k3.Name, N := y3_k3.N } : Mk.Write)] : List Mk.Write).length ≤ 9223372036854775807)) (
                            some ((y13_k3 ++ ([({ At := y3_k3.Name, N := y3_k3.N } : Mk.Write)] : List Mk.Write)), ({ Err := (0 : Int), N := (0 : Int) } : Mk.Reply)))) else (
                          G ((0 ≤ x7_k3 ∧ x7_k3 < (y13_k3.length : Int))) (
                            some ((up y13_k3 x7_k3 { (ix y13_k3 x7_k3) with N := y3_k3.N }), ({ Err := (0 : Int), N := x8_k3 } : Mk.Reply)))))))) else (
                  (bif (decide (x7_k3 < (0 : Int))) then (
                      some (y13_k3, ({ Err := (6 : Int), N := (0 : Int) } : Mk.Reply))) else (
                      J (fun (x7_k13 : Int) (y5_k13 : Mk.Reply) (y13_k13 : List Mk.Write) =>
                        G ((0 ≤ x7_k13 ∧ x7_k13 < (y13_k13.length : Int))) (
                          some (y13_k13, ({ Err := (0 : Int), N := (ix y13_k13 x7_k13).N } : Mk.Reply)))) (fun k13 =>
                        (bif (decide (y3_k3.Kind = (3 : Int))) then (
                            G (I ((y13_k3.length : Int) - (1 : Int))) (
                            G ((0 ≤ ((y13_k3.length : Int) - (1 : Int)) ∧ ((y13_k3.length : Int) - (1 : Int)) < (y13_k3.length : Int))) (
                            G ((0 ≤ x7_k3 ∧ x7_k3 < (y13_k3.length : Int))) (
                            G ((0 ≤ (0 : Int) ∧ (0 : Int) ≤ ((y13_k3.length : Int) - (1 : Int)) ∧ ((y13_k3.length : Int) - (1 : Int)) ≤ ((up y13_k3 x7_k3 (ix y13_k3 ((y13_k3.length : Int) - (1 : Int)))).length : Int))) (
                            some ((sub (up y13_k3 x7_k3 (ix y13_k3 ((y13_k3.length : Int) - (1 : Int)))) (0 : Int) ((y13_k3.length : Int) - (1 : Int))), ({ Err := (0 : Int), N := x8_k3 } : Mk.Reply))))))) else (
                            (bif (decide (y3_k3.Kind = (4 : Int))) then (
                            G (I (x8_k3 + y3_k3.N)) (
                            (bif ((decide ((x8_k3 + y3_k3.N) < (-1073741824 : Int))) || (decide ((1073741824 : Int) < (x8_k3 + y3_k3.N)))) then (
                            some (y13_k3, ({ Err := (3 : Int), N := (0 : Int) } : Mk.Reply))) else (
                            G ((0 ≤ x7_k3 ∧ x7_k3 < (y13_k3.length : Int))) (
                            k13 (x7_k3) (y5_k3) ((up y13_k3 x7_k3 { (ix y13_k3 x7_k3) with N := (x8_k3 + y3_k3.N) }))))))) else (
                            (bif (decide (y3_k3.Kind = (6 : Int))) then (
                            (model_entry (y13_k3) (y3_k3.Other)).bind (fun v24 =>
                            (bif (decide (v24 < (0 : Int))) then (
                            some (y13_k3, ({ Err := (6 : Int), N := (0 : Int) } : Mk.Reply))) else (
                            G ((0 ≤ v24 ∧ v24 < (y13_k3.length : Int))) (
                            G ((0 ≤ x7_k3 ∧ x7_k3 < (y13_k3.length : Int))) (
                            G ((0 ≤ x7_k3 ∧ x7_k3 < (y13_k3.length : Int))) (
                            G ((0 ≤ v24 ∧ v24 < ((up y13_k3 x7_k3 { (ix y13_k3 x7_k3) with N := (ix y13_k3 v24).N }).length : Int))) (
                            k13 (x7_k3) (y5_k3) ((up (up y13_k3 x7_k3 { (ix y13_k3 x7_k3) with N := (ix y13_k3 v24).N }) v24 { (ix (up y13_k3 x7_k3 { (ix y13_k3 x7_k3) with N := (ix y13_k3 v24).N }) v24) with N := (ix y13_k3 x7_k3).N })))))))))) else (
                            k13 (x7_k3) (y5_k3) (y13_k3))))))))))))))) (fun k3 =>
          (bif (decide ((0 : Int) ≤ v2)) then (
              G ((0 ≤ v2 ∧ v2 < (v1.length : Int))) (
                k3 (v2) ((ix v1 v2).N) (a1) (({ Err := (0 : Int), N := (0 : Int) } : Mk.Reply)) (v1))) else (
              k3 (v2) ((0 : Int)) (a1) (({ Err := (0 : Int), N := (0 : Int) } : Mk.Reply)) (v1))))))
def model_Of_l1 (k1 : (List Mk.Write) → Option ((List Mk.Write))) : Nat → (List Int) → Int → Int → (List Mk.Write) → Option ((List Mk.Write))
  | 0, _, _, _, _ => none
  | m3 + 1, x0_m3, x7_m3, x8_m3, y1003_m3 =>
    (bif (decide (x8_m3 < x7_m3)) then (
        G (I ((2 : Int) * x8_m3)) (
          G (I ((1 : Int) + ((2 : Int) * x8_m3))) (
            G ((0 ≤ ((1 : Int) + ((2 : Int) * x8_m3)) ∧ ((1 : Int) + ((2 : Int) * x8_m3)) < (x0_m3.length : Int))) (
              G (I ((2 : Int) * x8_m3)) (
                G (I ((2 : Int) + ((2 : Int) * x8_m3))) (
                  G ((0 ≤ ((2 : Int) + ((2 : Int) * x8_m3)) ∧ ((2 : Int) + ((2 : Int) * x8_m3)) < (x0_m3.length : Int))) (
                    G (((y1003_m3.length + ([({ At := (ix x0_m3 ((1 : Int) + ((2 : Int) * x8_m3))), N := (ix x0_m3 ((2 : Int) + ((2 : Int) * x8_m3))) } : Mk.Write)] : List Mk.Write).length) * 16 ≤ 140737488355328 ∧ y1003_m3.length + ([({ At := (ix x0_m3 ((1 : Int) + ((2 : Int) * x8_m3))), N := (ix x0_m3 ((2 : Int) + ((2 : Int) * x8_m3))) } : Mk.Write)] : List Mk.Write).length ≤ 9223372036854775807)) (
                      G (I (x8_m3 + (1 : Int))) (
                        model_Of_l1 k1 m3 (x0_m3) (x7_m3) ((x8_m3 + (1 : Int))) ((y1003_m3 ++ ([({ At := (ix x0_m3 ((1 : Int) + ((2 : Int) * x8_m3))), N := (ix x0_m3 ((2 : Int) + ((2 : Int) * x8_m3))) } : Mk.Write)] : List Mk.Write)))))))))))) else (
        k1 (y1003_m3)))
def model_Of (a0 : List Int) : Option ((List Mk.Write)) :=
    J (fun (y1003_k1 : List Mk.Write) =>
      some (y1003_k1)) (fun k1 =>
      G ((0 ≤ (0 : Int) ∧ (0 : Int) < (a0.length : Int))) (
        model_Of_l1 k1 (((ix a0 (0 : Int)) - (0 : Int)).toNat + 1) (a0) ((ix a0 (0 : Int))) ((0 : Int)) (([] : List Mk.Write))))
def model_All_l1 (k1 : (List Mk.Write) → (List Mk.Reply) → Option ((List Mk.Write) × (List Mk.Reply))) : Nat → (List Mk.Write) → (List Mk.Request) → Int → Int → (List Mk.Reply) → Option ((List Mk.Write) × (List Mk.Reply))
  | 0, _, _, _, _, _ => none
  | m2 + 1, x4_m2, x10_m2, x11_m2, x12_m2, y1005_m2 =>
    (bif (decide (x12_m2 < x11_m2)) then (
        G ((0 ≤ x12_m2 ∧ x12_m2 < (x10_m2.length : Int))) (
          (model_Do (x4_m2) ((ix x10_m2 x12_m2).Call)).bind (fun v5 =>
            G (((y1005_m2.length + ([v5.2] : List Mk.Reply).length) * 16 ≤ 140737488355328 ∧ y1005_m2.length + ([v5.2] : List Mk.Reply).length ≤ 9223372036854775807)) (
              G (I (x12_m2 + (1 : Int))) (
                model_All_l1 k1 m2 (v5.1) (x10_m2) (x11_m2) ((x12_m2 + (1 : Int))) ((y1005_m2 ++ ([v5.2] : List Mk.Reply)))))))) else (
        k1 (x4_m2) (y1005_m2)))
def model_All (a0 : List Mk.Request) : Option ((List Mk.Write) × (List Mk.Reply)) :=
    J (fun (x4_k1 : List Mk.Write) (y1005_k1 : List Mk.Reply) =>
      some (x4_k1, y1005_k1)) (fun k1 =>
      model_All_l1 k1 (((a0.length : Int) - (0 : Int)).toNat + 1) (([] : List Mk.Write)) (a0) ((a0.length : Int)) ((0 : Int)) (([] : List Mk.Reply)))
end Sp
end
section
namespace Sp
set_option linter.unusedVariables false
def mklaw2_right_l2 (k5 : (List Mk.Write) → (List Mk.Write) → Int → Int → Option Bool) : Nat → (List Mk.Write) → (List Mk.Write) → Int → Int → (List Mk.Write) → Int → Int → Mk.Write → Option Bool
  | 0, _, _, _, _, _, _, _, _ => none
  | m9 + 1, x0_m9, x10_m9, x11_m9, x12_m9, x37_m9, x38_m9, x39_m9, y4_m9 =>
    (bif (decide (x39_m9 < x38_m9)) then (
        G ((0 ≤ x39_m9 ∧ x39_m9 < (x37_m9.length : Int))) (
          (bif (decide ((ix x37_m9 x39_m9).At = y4_m9.At)) then (
              some (false)) else (
              G (I (x39_m9 + (1 : Int))) (
                mklaw2_right_l2 k5 m9 (x0_m9) (x10_m9) (x11_m9) (x12_m9) (x37_m9) (x38_m9) ((x39_m9 + (1 : Int))) (y4_m9)))))) else (
        k5 (x0_m9) (x10_m9) (x11_m9) (x12_m9)))
def mklaw2_right_l1 (k2 : Unit → Option Bool) : Nat → (List Mk.Write) → (List Mk.Write) → Int → Int → Option Bool
  | 0, _, _, _, _ => none
  | m3 + 1, x0_m3, x10_m3, x11_m3, x12_m3 =>
    (bif (decide (x12_m3 < x11_m3)) then (
        J (fun (x0_k5 : List Mk.Write) (x10_k5 : List Mk.Write) (x11_k5 : Int) (x12_k5 : Int) =>
          G (I (x12_k5 + (1 : Int))) (
            mklaw2_right_l1 k2 m3 (x0_k5) (x10_k5) (x11_k5) ((x12_k5 + (1 : Int))))) (fun k5 =>
          G ((0 ≤ x12_m3 ∧ x12_m3 < (x10_m3.length : Int))) (
            (bif ((((decide ((ix x10_m3 x12_m3).At < (1 : Int))) || (decide ((255 : Int) < (ix x10_m3 x12_m3).At))) || (decide ((ix x10_m3 x12_m3).N < (-1073741824 : Int)))) || (decide ((1073741824 : Int) < (ix x10_m3 x12_m3).N))) then (
                some (false)) else (
                G ((0 ≤ (0 : Int) ∧ (0 : Int) ≤ x12_m3 ∧ x12_m3 ≤ (x0_m3.length : Int))) (
                  mklaw2_right_l2 k5 ((((sub x0_m3 (0 : Int) x12_m3).length : Int) - (0 : Int)).toNat + 1) (x0_m3) (x10_m3) (x11_m3) (x12_m3) ((sub x0_m3 (0 : Int) x12_m3)) (((sub x0_m3 (0 : Int) x12_m3).length : Int)) ((0 : Int)) ((ix x10_m3 x12_m3)))))))) else (
        k2 ()))
def mklaw2_right (a0 : List Mk.Write) : Option Bool :=
    (bif (decide ((5 : Int) < (a0.length : Int))) then (
        some (false)) else (
        J (fun (_ : Unit) =>
          some (true)) (fun k2 =>
          mklaw2_right_l1 k2 (((a0.length : Int) - (0 : Int)).toNat + 1) (a0) (a0) ((a0.length : Int)) ((0 : Int)))))
def mklaw2_alive  : Option Bool :=
    (model_Do (([] : List Mk.Write)) (({ Kind := (1 : Int), Name := (7 : Int), Other := (0 : Int), N := (5 : Int) } : Mk.Call))).bind (fun v1 =>
      (model_Do (v1.1) (({ Kind := (4 : Int), Name := (7 : Int), Other := (0 : Int), N := (-2 : Int) } : Mk.Call))).bind (fun v2 =>
        (model_All (([({ Client := (0 : Int), Token := (0 : Int), Call := ({ Kind := (5 : Int), Name := (0 : Int), Other := (0 : Int), N := (0 : Int) } : Mk.Call) } : Mk.Request)] : List Mk.Request))).bind (fun v3 =>
          (Cn ((((((((decide ((v1.1.length : Int) = (1 : Int))) && (decide (v1.2.Err = (0 : Int)))) && (decide ((v2.1.length : Int) = (1 : Int)))) && (decide (v2.2.N = (3 : Int)))) && (decide ((v3.1.length : Int) = (0 : Int)))) && (decide ((v3.2.length : Int) = (1 : Int))))) = true) (model_Wrong (({ Kind := (0 : Int), Name := (0 : Int), Other := (0 : Int), N := (0 : Int) } : Mk.Call)))).bind (fun v4 =>
            (Cn (((((((((decide ((v1.1.length : Int) = (1 : Int))) && (decide (v1.2.Err = (0 : Int)))) && (decide ((v2.1.length : Int) = (1 : Int)))) && (decide (v2.2.N = (3 : Int)))) && (decide ((v3.1.length : Int) = (0 : Int)))) && (decide ((v3.2.length : Int) = (1 : Int)))) && (decide (v4 = (1 : Int))))) = true) (model_Of (([(1 : Int), (7 : Int), (5 : Int), (0 : Int), (0 : Int), (0 : Int), (0 : Int), (0 : Int), (0 : Int), (0 : Int), (0 : Int)] : List Int)))).bind (fun v5 =>
              some (((((((((decide ((v1.1.length : Int) = (1 : Int))) && (decide (v1.2.Err = (0 : Int)))) && (decide ((v2.1.length : Int) = (1 : Int)))) && (decide (v2.2.N = (3 : Int)))) && (decide ((v3.1.length : Int) = (0 : Int)))) && (decide ((v3.2.length : Int) = (1 : Int)))) && (decide (v4 = (1 : Int)))) && (decide ((v5.length : Int) = (1 : Int))))))))))
def mklaw2_ModelTells_l1 (k17 : (List Mk.Request) → Option Bool) : Nat → (List Mk.Request) → (List Mk.Request) → Int → Int → Option Bool
  | 0, _, _, _, _ => none
  | m18 + 1, x2_m18, x64_m18, x65_m18, x66_m18 =>
    (bif (decide (x66_m18 < x65_m18)) then (
        G ((0 ≤ x66_m18 ∧ x66_m18 < (x64_m18.length : Int))) (
          (mkref1_WrongCall ((ix x64_m18 x66_m18).Call)).bind (fun v21 =>
            (bif (!decide (v21 = (0 : Int))) then (
                some (true)) else (
                G (I (x66_m18 + (1 : Int))) (
                  mklaw2_ModelTells_l1 k17 m18 (x2_m18) (x64_m18) (x65_m18) ((x66_m18 + (1 : Int))))))))) else (
        k17 (x2_m18)))
def mklaw2_ModelTells_l2 (k28 : Unit → Option Bool) : Nat → (List Mk.Reply) → (List Mk.Reply) → Int → Int → Option Bool
  | 0, _, _, _, _ => none
  | m29 + 1, x16_m29, x18_m29, x97_m29, x98_m29 =>
    (bif (decide (x98_m29 < x97_m29)) then (
        G ((0 ≤ x98_m29 ∧ x98_m29 < (x16_m29.length : Int))) (
          G ((0 ≤ x98_m29 ∧ x98_m29 < (x18_m29.length : Int))) (
            (bif (!decide ((ix x16_m29 x98_m29) = (ix x18_m29 x98_m29))) then (
                some (false)) else (
                G (I (x98_m29 + (1 : Int))) (
                  mklaw2_ModelTells_l2 k28 m29 (x16_m29) (x18_m29) (x97_m29) ((x98_m29 + (1 : Int))))))))) else (
        k28 ()))
def mklaw2_ModelTells (a0 : List Mk.Write) (a1 : Mk.Call) (a2 : List Mk.Request) (a3 : List Int) : Option Bool :=
    (model_Wrong (a1)).bind (fun v1 =>
      (mkref1_WrongCall (a1)).bind (fun v2 =>
        (bif (!decide (v1 = v2)) then (
            some (false)) else (
            J (fun (x2_k4 : List Mk.Request) (x3_k4 : List Int) =>
              (mkref1_WrongCells (x3_k4)).bind (fun v12 =>
                (Cn (((decide (v12 = (0 : Int)))) = true) (model_Of (x3_k4))).bind (fun v13 =>
                  (Cn (((decide (v12 = (0 : Int)))) = true) (mkref1_Of (x3_k4))).bind (fun v14 =>
                    (Cn (((decide (v12 = (0 : Int)))) = true) (mkref1_SameWrites (v13) (v14))).bind (fun v15 =>
                      (bif ((decide (v12 = (0 : Int))) && (!v15)) then (
                          some (false)) else (
                          J (fun (x2_k17 : List Mk.Request) =>
                            (model_All (x2_k17)).bind (fun v24 =>
                            (mkref1_All (x2_k17)).bind (fun v25 =>
                            (Cn (((!decide ((v24.2.length : Int) = (v25.2.length : Int)))) = false) (mkref1_SameWrites (v24.1) (v25.1))).bind (fun v26 =>
                            (bif ((!decide ((v24.2.length : Int) = (v25.2.length : Int))) || (!v26)) then (
                            some (false)) else (
                            J (fun (_ : Unit) =>
                            some (true)) (fun k28 =>
                            mklaw2_ModelTells_l2 k28 (((v24.2.length : Int) - (0 : Int)).toNat + 1) (v24.2) (v25.2) ((v24.2.length : Int)) ((0 : Int))))))))) (fun k17 =>
                            mklaw2_ModelTells_l1 k17 (((x2_k4.length : Int) - (0 : Int)).toNat + 1) (x2_k4) (x2_k4) ((x2_k4.length : Int)) ((0 : Int)))))))))) (fun k4 =>
              (mklaw2_right (a0)).bind (fun v5 =>
                (Cn ((v5) = true) (mkref1_WrongCall (a1))).bind (fun v6 =>
                  (bif (v5 && (decide (v6 = (0 : Int)))) then (
                      (model_Do (a0) (a1)).bind (fun v8 =>
                        (mkref1_Do (a0) (a1)).bind (fun v9 =>
                          (Cn (((!decide (v8.2 = v9.2))) = false) (mkref1_SameWrites (v8.1) (v9.1))).bind (fun v10 =>
                            (bif ((!decide (v8.2 = v9.2)) || (!v10)) then (
                            some (false)) else (
                            k4 (a2) (a3))))))) else (
                      k4 (a2) (a3))))))))))
def mklaw2_ModelRight (a0 : List Mk.Write) (a1 : Mk.Call) : Option Bool :=
    (mklaw2_alive).bind (fun v1 =>
      (bif (!v1) then (
          some (false)) else (
          (mklaw2_right (a0)).bind (fun v3 =>
            (Cn (((!v3)) = false) (model_Wrong (a1))).bind (fun v4 =>
              (bif ((!v3) || (!decide (v4 = (0 : Int)))) then (
                  some (true)) else (
                  (model_Do (a0) (a1)).bind (fun v6 =>
                    (mklaw2_right (v6.1)).bind (fun v7 =>
                      (Cn ((((v7) = true) ∧ ((decide (v6.2.Err = (0 : Int)))) = false) ∧ ((decide (v6.2.N = (0 : Int)))) = true) (mkref1_SameWrites (v6.1) (a0))).bind (fun v8 =>
                        some ((((v7 && ((decide (v6.2.Err = (0 : Int))) || ((decide (v6.2.N = (0 : Int))) && v8))) && (decide ((-1073741824 : Int) ≤ v6.2.N))) && (decide (v6.2.N ≤ (1073741824 : Int)))))))))))))))
def mklaw2_ModelSwap (a0 : List Mk.Write) (a1 : Int) (a2 : Int) : Option Bool :=
    (mklaw2_alive).bind (fun v1 =>
      (bif (!v1) then (
          some (false)) else (
          (mklaw2_right (a0)).bind (fun v3 =>
            (Cn (((!v3)) = false) (model_Wrong (({ Kind := (6 : Int), Name := a1, Other := a2, N := (0 : Int) } : Mk.Call)))).bind (fun v4 =>
              (bif ((!v3) || (!decide (v4 = (0 : Int)))) then (
                  some (true)) else (
                  (model_Do (a0) (({ Kind := (6 : Int), Name := a1, Other := a2, N := (0 : Int) } : Mk.Call))).bind (fun v6 =>
                    (model_Do (v6.1) (({ Kind := (6 : Int), Name := a2, Other := a1, N := (0 : Int) } : Mk.Call))).bind (fun v7 =>
                      (Cn (((decide (v6.2.Err = v7.2.Err))) = true) (mkref1_SameWrites (v7.1) (a0))).bind (fun v8 =>
                        some (((decide (v6.2.Err = v7.2.Err)) && v8))))))))))))
end Sp
end
section
namespace Go.Gx
open Sp
set_option linter.unusedVariables false
set_option linter.unusedSimpArgs false
set_option maxRecDepth 20000
theorem c_mkref1_WrongCells {a0 : List Int} {r : Int} (hφ : mkref1_WrongCells a0 = some r) : Fn Go.Proofs.Try.prog 58 [.val a0] (.val r) := by
  unfold mkref1_WrongCells at hφ
  refine Fn.mk' Go.Proofs.Try.func58 rfl (by decide) rfl rfl rfl (fun w0 hw0 => ?_)
  refine PT.seq ?_
  refine PT.region ?_
  refine Ops.put rfl rfl (ox_assign .int) (.nil) (.nil) rfl ?_
  refine Ops.nil ?_
  refine PT.sub (σ' := ⟨[(0, .val (a0))], []⟩) ⟨rfl, trivial⟩ trivial ?_
  refine PT.seq ?_
  refine PT.seq ?_
  refine PT.region ?_
  refine Ops.put rfl rfl (ox_move .tmp) (.one rfl) (.nil) rfl ?_
  refine Ops.put rfl rfl (ox_len s43 .tmp) (.one rfl) (.nil) rfl ?_
  refine Ops.put rfl rfl (ox_neq .tmp .int) ((.app (.one rfl) (.nil))) (.nil) rfl ?_
  refine Ops.nil ?_
  refine PT.sub (σ' := ⟨[(0, .val (a0)), (7, .val ((!decide ((a0.length : Int) = (11 : Int)))))], []⟩) ⟨rfl, rfl, trivial⟩ trivial ?_
  refine PT.cond _ rfl (fun hc1 => ?_) (fun hc1 => ?_)
  · replace hφ := if_then hφ hc1
    refine PT.sub (σ' := ⟨[], []⟩) trivial trivial ?_
    refine PT.seq ?_
    refine PT.region ?_
    refine Ops.put rfl rfl (ox_assign .int) (.nil) (.nil) rfl ?_
    refine Ops.nil ?_
    refine PT.sub (σ' := ⟨[(2, .val ((5 : Int)))], []⟩) ⟨rfl, trivial⟩ trivial ?_
    refine PT.ret ?_
    obtain rfl := Option.some.inj hφ
    exact PT.done hw0 rfl (.tmp rfl rfl .nil) rfl
  · replace hφ := if_else hφ hc1
    refine PT.sub (σ' := ⟨[(0, .val (a0))], []⟩) ⟨rfl, trivial⟩ trivial ?_
    refine PT.skip ?_
    refine PT.seq ?_
    refine PT.seq ?_
    obtain ⟨hb2, hφ⟩ := G_some hφ
    obtain ⟨hb3, hφ⟩ := G_some hφ
    refine PT.region ?_
    refine Ops.put rfl rfl (ox_move .tmp) (.one rfl) (.nil) rfl ?_
    refine Ops.put rfl rfl (ox_ix s43 .tmp .int hb2.1 hb2.2) ((.app (.one rfl) (.nil))) (.nil) rfl ?_
    refine Ops.put rfl rfl (ox_load_elem t3) (.one rfl) (.nil) rfl ?_
    refine Ops.put rfl rfl (ox_lss .tmp .int) ((.app (.one rfl) (.nil))) (.nil) rfl ?_
    refine Ops.put rfl rfl (ox_move .tmp) (.one rfl) (.nil) rfl ?_
    refine Ops.guard rfl rfl rfl rfl (.plain .nil) (fun hG => (ox_move .tmp)) ⟨rfl, trivial⟩ (.nil) rfl ?_
    refine Ops.guard rfl rfl rfl rfl (.cond (fun h => h) .nil) (fun hG => (ox_ix s43 .tmp .int (hb3 hG).1 (hb3 hG).2)) ⟨rfl, trivial⟩ (.nil) rfl ?_
    refine Ops.guard rfl rfl rfl rfl (.cond (fun h => h) .nil) (fun hG => (ox_load_elem t3)) ⟨rfl, trivial⟩ (.nil) rfl ?_
    refine Ops.guard rfl rfl rfl rfl (.cond (fun h => h) .nil) (fun hG => (ox_gtr .tmp .int)) ⟨rfl, trivial⟩ (.nil) rfl ?_
    refine Ops.put rfl rfl ox_pick_or (⟨rfl, rfl, trivial⟩) (.nil) rfl ?_
    refine Ops.nil ?_
    refine PT.sub (σ' := ⟨[(0, .val (a0)), (17, .val (((decide ((ix a0 (0 : Int)) < (0 : Int))) || (decide ((5 : Int) < (ix a0 (0 : Int)))))))], []⟩) ⟨rfl, rfl, trivial⟩ trivial ?_
    refine PT.cond _ rfl (fun hc4 => ?_) (fun hc4 => ?_)
    · replace hφ := if_then hφ hc4
      refine PT.sub (σ' := ⟨[], []⟩) trivial trivial ?_
      refine PT.seq ?_
      refine PT.region ?_
      refine Ops.put rfl rfl (ox_assign .int) (.nil) (.nil) rfl ?_
      refine Ops.nil ?_
      refine PT.sub (σ' := ⟨[(2, .val ((3 : Int)))], []⟩) ⟨rfl, trivial⟩ trivial ?_
      refine PT.ret ?_
      obtain rfl := Option.some.inj hφ
      exact PT.done hw0 rfl (.tmp rfl rfl .nil) rfl
    · replace hφ := if_else hφ hc4
      refine PT.sub (σ' := ⟨[(0, .val (a0))], []⟩) ⟨rfl, trivial⟩ trivial ?_
      refine PT.skip ?_
      obtain ⟨k5, hk5, hφ⟩ := J_some hφ
      refine PT.cut (ι := Unit) (fun p => ⟨[], []⟩) (fun p => k5 () = some r) ?_ ?_
      · skip
        refine PT.seq ?_
        refine PT.region ?_
        refine Ops.put rfl rfl (ox_assign .int) (.nil) (.nil) rfl ?_
        refine Ops.nil ?_
        refine PT.sub (σ' := ⟨[(0, .val (a0)), (3, .val ((1 : Int)))], []⟩) ⟨rfl, rfl, trivial⟩ trivial ?_
        refine PT.block ?_
        refine PT.loop (ι := Nat × (List Int) × Int) (fun p => ⟨[(0, .val (p.2.1)), (3, .val (p.2.2))], []⟩) (fun p => mkref1_WrongCells_l1 k5 p.1 (p.2.1) (p.2.2) = some r) (fun p => p.1) ((((1 : Int) + ((2 : Int) * (ix a0 (0 : Int)))) - (1 : Int)).toNat + 1, a0, (1 : Int)) hφ ⟨rfl, rfl, trivial⟩ trivial ?_
        rintro ⟨m6, x0_m6, x3_m6⟩ (hφ : mkref1_WrongCells_l1 k5 m6 x0_m6 x3_m6 = some r)
        obtain _ | m6 := m6
        · exact (none_no hφ).elim
        rw [mkref1_WrongCells_l1.eq_2] at hφ
        refine PT.sub (σ' := ⟨[(0, .val (x0_m6)), (3, .val (x3_m6))], []⟩) ⟨rfl, rfl, trivial⟩ trivial ?_
        refine PT.seq ?_
        refine PT.seq ?_
        obtain ⟨hb7, hφ⟩ := G_some hφ
        obtain ⟨hb8, hφ⟩ := G_some hφ
        obtain ⟨hb9, hφ⟩ := G_some hφ
        refine PT.region ?_
        refine Ops.put rfl rfl (ox_move .tmp) (.one rfl) (.nil) rfl ?_
        refine Ops.put rfl rfl (ox_move .tmp) (.one rfl) (.nil) rfl ?_
        refine Ops.put rfl rfl (ox_ix s43 .tmp .int hb7.1 hb7.2) ((.app (.one rfl) (.nil))) (.nil) rfl ?_
        refine Ops.put rfl rfl (ox_load_elem t3) (.one rfl) (.nil) rfl ?_
        refine Ops.put rfl rfl (ox_mul .int .tmp hb8) ((.app (.nil) (.one rfl))) (.nil) rfl ?_
        refine Ops.put rfl rfl (ox_add .int .tmp hb9) ((.app (.nil) (.one rfl))) (.nil) rfl ?_
        refine Ops.put rfl rfl (ox_lss .tmp .tmp) ((.app (.one rfl) (.one rfl))) (.nil) rfl ?_
        refine Ops.nil ?_
        refine PT.sub (σ' := ⟨[(0, .val (x0_m6)), (3, .val (x3_m6)), (24, .val ((decide (x3_m6 < ((1 : Int) + ((2 : Int) * (ix x0_m6 (0 : Int))))))))], []⟩) ⟨rfl, rfl, rfl, trivial⟩ trivial ?_
        refine PT.cond _ rfl (fun hc10 => ?_) (fun hc10 => ?_)
        · replace hφ := if_then hφ hc10
          refine PT.sub (σ' := ⟨[(0, .val (x0_m6)), (3, .val (x3_m6))], []⟩) ⟨rfl, rfl, trivial⟩ trivial ?_
          refine PT.skip ?_
          obtain ⟨k11, hk11, hφ⟩ := J_some hφ
          refine PT.cut (ι := (List Int) × Int) (fun p => ⟨[(0, .val (p.1)), (3, .val (p.2))], []⟩) (fun p => k11 (p.1) (p.2) = some r) ?_ ?_
          · skip
            refine PT.block ?_
            refine PT.seq ?_
            refine PT.seq ?_
            obtain ⟨hb12, hφ⟩ := G_some hφ
            obtain ⟨hb13, hφ⟩ := G_some hφ
            obtain ⟨hb14, hφ⟩ := G_some hφ
            obtain ⟨hb15, hφ⟩ := G_some hφ
            obtain ⟨hb16, hφ⟩ := G_some hφ
            obtain ⟨hb17, hφ⟩ := G_some hφ
            refine PT.region ?_
            refine Ops.put rfl rfl (ox_move .tmp) (.one rfl) (.nil) rfl ?_
            refine Ops.put rfl rfl (ox_move .tmp) (.one rfl) (.nil) rfl ?_
            refine Ops.put rfl rfl (ox_ix s43 .tmp .tmp hb12.1 hb12.2) ((.app (.one rfl) (.one rfl))) (.nil) rfl ?_
            refine Ops.put rfl rfl (ox_load_elem t3) (.one rfl) (.nil) rfl ?_
            refine Ops.put rfl rfl (ox_lss .tmp .int) ((.app (.one rfl) (.nil))) (.nil) rfl ?_
            refine Ops.put rfl rfl (ox_move .tmp) (.one rfl) (.nil) rfl ?_
            refine Ops.guard rfl rfl rfl rfl (.plain .nil) (fun hG => (ox_move .tmp)) ⟨rfl, trivial⟩ (.nil) rfl ?_
            refine Ops.guard rfl rfl rfl rfl (.plain .nil) (fun hG => (ox_move .tmp)) ⟨rfl, trivial⟩ (.nil) rfl ?_
            refine Ops.guard rfl rfl rfl rfl (.cond (fun h => h) (.cond (fun h => h) .nil)) (fun hG => (ox_ix s43 .tmp .tmp (hb13 hG).1 (hb13 hG).2)) ⟨rfl, rfl, trivial⟩ (.nil) rfl ?_
            refine Ops.guard rfl rfl rfl rfl (.cond (fun h => h) .nil) (fun hG => (ox_load_elem t3)) ⟨rfl, trivial⟩ (.nil) rfl ?_
            refine Ops.guard rfl rfl rfl rfl (.cond (fun h => h) .nil) (fun hG => (ox_gtr .tmp .int)) ⟨rfl, trivial⟩ (.nil) rfl ?_
            refine Ops.put rfl rfl ox_pick_or (⟨rfl, rfl, trivial⟩) (.nil) rfl ?_
            refine Ops.put rfl rfl (ox_move .tmp) (.one rfl) (.nil) rfl ?_
            refine Ops.guard rfl rfl rfl rfl (.plain .nil) (fun hG => (ox_move .tmp)) ⟨rfl, trivial⟩ (.nil) rfl ?_
            refine Ops.guard rfl rfl rfl rfl (.plain .nil) (fun hG => (ox_move .tmp)) ⟨rfl, trivial⟩ (.nil) rfl ?_
            refine Ops.guard rfl rfl rfl rfl (.cond (fun h => h) .nil) (fun hG => (ox_add .tmp .int (hb14 hG))) ⟨rfl, trivial⟩ (.nil) rfl ?_
            refine Ops.guard rfl rfl rfl rfl (.cond (fun h => h) (.cond (fun h => h) .nil)) (fun hG => (ox_ix s43 .tmp .tmp (hb15 hG).1 (hb15 hG).2)) ⟨rfl, rfl, trivial⟩ (.nil) rfl ?_
            refine Ops.guard rfl rfl rfl rfl (.cond (fun h => h) .nil) (fun hG => (ox_load_elem t3)) ⟨rfl, trivial⟩ (.nil) rfl ?_
            refine Ops.guard rfl rfl rfl rfl (.cond (fun h => h) .nil) (fun hG => (ox_lss .tmp .int)) ⟨rfl, trivial⟩ (.nil) rfl ?_
            refine Ops.put rfl rfl ox_pick_or (⟨rfl, rfl, trivial⟩) (.nil) rfl ?_
            refine Ops.put rfl rfl (ox_move .tmp) (.one rfl) (.nil) rfl ?_
            refine Ops.guard rfl rfl rfl rfl (.plain .nil) (fun hG => (ox_move .tmp)) ⟨rfl, trivial⟩ (.nil) rfl ?_
            refine Ops.guard rfl rfl rfl rfl (.plain .nil) (fun hG => (ox_move .tmp)) ⟨rfl, trivial⟩ (.nil) rfl ?_
            refine Ops.guard rfl rfl rfl rfl (.cond (fun h => h) .nil) (fun hG => (ox_add .tmp .int (hb16 hG))) ⟨rfl, trivial⟩ (.nil) rfl ?_
            refine Ops.guard rfl rfl rfl rfl (.cond (fun h => h) (.cond (fun h => h) .nil)) (fun hG => (ox_ix s43 .tmp .tmp (hb17 hG).1 (hb17 hG).2)) ⟨rfl, rfl, trivial⟩ (.nil) rfl ?_
            refine Ops.guard rfl rfl rfl rfl (.cond (fun h => h) .nil) (fun hG => (ox_load_elem t3)) ⟨rfl, trivial⟩ (.nil) rfl ?_
            refine Ops.guard rfl rfl rfl rfl (.cond (fun h => h) .nil) (fun hG => (ox_gtr .tmp .int)) ⟨rfl, trivial⟩ (.nil) rfl ?_
            refine Ops.put rfl rfl ox_pick_or (⟨rfl, rfl, trivial⟩) (.nil) rfl ?_
            refine Ops.nil ?_
            refine PT.sub (σ' := ⟨[(0, .val (x0_m6)), (3, .val (x3_m6)), (54, .val (((((decide ((ix x0_m6 x3_m6) < (1 : Int))) || (decide ((255 : Int) < (ix x0_m6 x3_m6)))) || (decide ((ix x0_m6 (x3_m6 + (1 : Int))) < (-1073741824 : Int)))) || (decide ((1073741824 : Int) < (ix x0_m6 (x3_m6 + (1 : Int))))))))], []⟩) ⟨rfl, rfl, rfl, trivial⟩ trivial ?_
            refine PT.cond _ rfl (fun hc18 => ?_) (fun hc18 => ?_)
            · replace hφ := if_then hφ hc18
              refine PT.sub (σ' := ⟨[], []⟩) trivial trivial ?_
              refine PT.seq ?_
              refine PT.region ?_
              refine Ops.put rfl rfl (ox_assign .int) (.nil) (.nil) rfl ?_
              refine Ops.nil ?_
              refine PT.sub (σ' := ⟨[(2, .val ((3 : Int)))], []⟩) ⟨rfl, trivial⟩ trivial ?_
              refine PT.ret ?_
              obtain rfl := Option.some.inj hφ
              exact PT.done hw0 rfl (.tmp rfl rfl .nil) rfl
            · replace hφ := if_else hφ hc18
              refine PT.sub (σ' := ⟨[(0, .val (x0_m6)), (3, .val (x3_m6))], []⟩) ⟨rfl, rfl, trivial⟩ trivial ?_
              refine PT.skip ?_
              refine PT.seq ?_
              refine PT.region ?_
              refine Ops.put rfl rfl (ox_assign .int) (.nil) (.nil) rfl ?_
              refine Ops.nil ?_
              refine PT.sub (σ' := ⟨[(0, .val (x0_m6)), (3, .val (x3_m6)), (4, .val ((1 : Int)))], []⟩) ⟨rfl, rfl, rfl, trivial⟩ trivial ?_
              refine PT.block ?_
              refine PT.loop (ι := Nat × (List Int) × Int × Int) (fun p => ⟨[(0, .val (p.2.1)), (3, .val (p.2.2.1)), (4, .val (p.2.2.2))], []⟩) (fun p => mkref1_WrongCells_l2 k11 p.1 (p.2.1) (p.2.2.1) (p.2.2.2) = some r) (fun p => p.1) ((x3_m6 - (1 : Int)).toNat + 1, x0_m6, x3_m6, (1 : Int)) hφ ⟨rfl, rfl, rfl, trivial⟩ trivial ?_
              rintro ⟨m19, x0_m19, x3_m19, x4_m19⟩ (hφ : mkref1_WrongCells_l2 k11 m19 x0_m19 x3_m19 x4_m19 = some r)
              obtain _ | m19 := m19
              · exact (none_no hφ).elim
              rw [mkref1_WrongCells_l2.eq_2] at hφ
              refine PT.sub (σ' := ⟨[(0, .val (x0_m19)), (3, .val (x3_m19)), (4, .val (x4_m19))], []⟩) ⟨rfl, rfl, rfl, trivial⟩ trivial ?_
              refine PT.seq ?_
              refine PT.seq ?_
              refine PT.region ?_
              refine Ops.put rfl rfl (ox_move .tmp) (.one rfl) (.nil) rfl ?_
              refine Ops.put rfl rfl (ox_move .tmp) (.one rfl) (.nil) rfl ?_
              refine Ops.put rfl rfl (ox_lss .tmp .tmp) ((.app (.one rfl) (.one rfl))) (.nil) rfl ?_
              refine Ops.nil ?_
              refine PT.sub (σ' := ⟨[(0, .val (x0_m19)), (3, .val (x3_m19)), (4, .val (x4_m19)), (57, .val ((decide (x4_m19 < x3_m19))))], []⟩) ⟨rfl, rfl, rfl, rfl, trivial⟩ trivial ?_
              refine PT.cond _ rfl (fun hc20 => ?_) (fun hc20 => ?_)
              · replace hφ := if_then hφ hc20
                refine PT.sub (σ' := ⟨[(0, .val (x0_m19)), (3, .val (x3_m19)), (4, .val (x4_m19))], []⟩) ⟨rfl, rfl, rfl, trivial⟩ trivial ?_
                refine PT.skip ?_
                refine PT.seq ?_
                refine PT.block ?_
                refine PT.seq ?_
                obtain ⟨hb21, hφ⟩ := G_some hφ
                obtain ⟨hb22, hφ⟩ := G_some hφ
                refine PT.draw hMixed (
                    Segs.cons (Step.put rfl rfl (ox_move .tmp)) ⟨.one rfl, .nil⟩ (by kernel_rfl) rfl <|
                    Segs.cons (Step.put rfl rfl (ox_move .tmp)) ⟨.one rfl, .nil⟩ (by kernel_rfl) rfl <|
                    Segs.cons (Step.put rfl rfl (ox_ix s43 .tmp .tmp hb21.1 hb21.2)) ⟨(.app (.one rfl) (.one rfl)), .nil⟩ (by kernel_rfl) rfl <|
                    Segs.cons (Step.put rfl rfl (ox_load_elem t3)) ⟨.one rfl, .nil⟩ (by kernel_rfl) rfl <|
                    Segs.cons (Step.put rfl rfl (ox_move .tmp)) ⟨.one rfl, .nil⟩ (by kernel_rfl) rfl <|
                    Segs.cons (Step.put rfl rfl (ox_move .tmp)) ⟨.one rfl, .nil⟩ (by kernel_rfl) rfl <|
                    Segs.cons (Step.put rfl rfl (ox_ix s43 .tmp .tmp hb22.1 hb22.2)) ⟨(.app (.one rfl) (.one rfl)), .nil⟩ (by kernel_rfl) rfl <|
                    Segs.cons (Step.put rfl rfl (ox_load_elem t3)) ⟨.one rfl, .nil⟩ (by kernel_rfl) rfl <|
                    Segs.cons (Step.put rfl rfl (ox_eql .tmp .tmp)) ⟨(.app (.one rfl) (.one rfl)), .nil⟩ (by kernel_rfl) rfl <|
                    Segs.nil) _ [[], [], [0, 1], [0, 1, 2], [], [], [4, 5], [4, 5, 6], [0, 1, 2, 3, 4, 5, 6, 7]] rfl (by kernel_rfl) (by kernel_rfl) ?_
                refine PT.sub (σ' := ⟨[(0, .val (x0_m19)), (3, .val (x3_m19)), (4, .val (x4_m19)), (68, .val ((decide ((ix x0_m19 x4_m19) = (ix x0_m19 x3_m19)))))], []⟩) ⟨rfl, rfl, rfl, rfl, trivial⟩ trivial ?_
                refine PT.cond _ rfl (fun hc23 => ?_) (fun hc23 => ?_)
                · replace hφ := if_then hφ hc23
                  refine PT.sub (σ' := ⟨[], []⟩) trivial trivial ?_
                  refine PT.seq ?_
                  refine PT.region ?_
                  refine Ops.put rfl rfl (ox_assign .int) (.nil) (.nil) rfl ?_
                  refine Ops.nil ?_
                  refine PT.sub (σ' := ⟨[(2, .val ((7 : Int)))], []⟩) ⟨rfl, trivial⟩ trivial ?_
                  refine PT.ret ?_
                  obtain rfl := Option.some.inj hφ
                  exact PT.done hw0 rfl (.tmp rfl rfl .nil) rfl
                · replace hφ := if_else hφ hc23
                  refine PT.sub (σ' := ⟨[(0, .val (x0_m19)), (3, .val (x3_m19)), (4, .val (x4_m19))], []⟩) ⟨rfl, rfl, rfl, trivial⟩ trivial ?_
                  refine PT.skip ?_
                  obtain ⟨hb24, hφ⟩ := G_some hφ
                  refine PT.region ?_
                  refine Ops.put rfl rfl (ox_move .tmp) (.one rfl) (.nil) rfl ?_
                  refine Ops.put rfl rfl (ox_add .tmp .int hb24) ((.app (.one rfl) (.nil))) (.nil) rfl ?_
                  refine Ops.put rfl rfl (ox_assign .tmp) (.one rfl) (.nil) rfl ?_
                  refine Ops.nil ?_
                  refine PT.sub (σ' := ⟨[(0, .val (x0_m19)), (3, .val (x3_m19)), (4, .val ((x4_m19 + (2 : Int))))], []⟩) ⟨rfl, rfl, rfl, trivial⟩ trivial ?_
                  exact PT.next (m19, x0_m19, x3_m19, (x4_m19 + (2 : Int))) hφ (Nat.lt_succ_self _) ⟨rfl, rfl, rfl, trivial⟩ trivial
              · replace hφ := if_else hφ hc20
                refine PT.sub (σ' := ⟨[(0, .val (x0_m19)), (3, .val (x3_m19))], []⟩) ⟨rfl, rfl, trivial⟩ trivial ?_
                refine PT.exit ?_
                exact PT.meet (x0_m19, x3_m19) hφ ⟨rfl, rfl, trivial⟩ trivial
          · rintro ⟨x0_k11, x3_k11⟩ hφ
            subst hk11
            refine PT.sub (σ' := ⟨[(0, .val (x0_k11)), (3, .val (x3_k11))], []⟩) ⟨rfl, rfl, trivial⟩ trivial ?_
            obtain ⟨hb25, hφ⟩ := G_some hφ
            refine PT.region ?_
            refine Ops.put rfl rfl (ox_move .tmp) (.one rfl) (.nil) rfl ?_
            refine Ops.put rfl rfl (ox_add .tmp .int hb25) ((.app (.one rfl) (.nil))) (.nil) rfl ?_
            refine Ops.put rfl rfl (ox_assign .tmp) (.one rfl) (.nil) rfl ?_
            refine Ops.nil ?_
            refine PT.sub (σ' := ⟨[(0, .val (x0_k11)), (3, .val ((x3_k11 + (2 : Int))))], []⟩) ⟨rfl, rfl, trivial⟩ trivial ?_
            exact PT.next (m6, x0_k11, (x3_k11 + (2 : Int))) hφ (Nat.lt_succ_self _) ⟨rfl, rfl, trivial⟩ trivial
        · replace hφ := if_else hφ hc10
          refine PT.sub (σ' := ⟨[], []⟩) trivial trivial ?_
          refine PT.exit ?_
          exact PT.meet () hφ trivial trivial
      · rintro ⟨⟩ hφ
        subst hk5
        refine PT.sub (σ' := ⟨[], []⟩) trivial trivial ?_
        refine PT.seq ?_
        refine PT.region ?_
        refine Ops.put rfl rfl (ox_assign .int) (.nil) (.nil) rfl ?_
        refine Ops.nil ?_
        refine PT.sub (σ' := ⟨[(2, .val ((0 : Int)))], []⟩) ⟨rfl, trivial⟩ trivial ?_
        refine PT.ret ?_
        obtain rfl := Option.some.inj hφ
        exact PT.done hw0 rfl (.tmp rfl rfl .nil) rfl
theorem c_mkref1_WrongCall {a0 : Mk.Call} {r : Int} (hφ : mkref1_WrongCall a0 = some r) : Fn Go.Proofs.Try.prog 77 [.val a0] (.val r) := by
  unfold mkref1_WrongCall at hφ
  refine Fn.mk' Go.Proofs.Try.func77 rfl (by decide) rfl rfl rfl (fun w0 hw0 => ?_)
  refine PT.seq ?_
  refine PT.region ?_
  refine Ops.putO rfl rfl (ox_box (id := 1) .tmp) (.one rfl) (.nil) rfl (by kernel_rfl) ?_
  refine Ops.put rfl rfl (ox_assign .int) (.nil) (.nil) rfl ?_
  refine Ops.nil ?_
  refine PT.sub (σ' := ⟨[(1, _)], [(1, .var (a0) [])]⟩) ⟨rfl, trivial⟩ ⟨rfl, trivial⟩ ?_
  refine PT.seq ?_
  refine PT.seq ?_
  refine PT.region ?_
  refine Ops.put rfl rfl (ox_fieldAddr_var Call_Kind f23_0) (.one rfl) (.nil) rfl ?_
  refine Ops.put rfl rfl (ox_load_fld t3) (.one rfl) (.one rfl) rfl ?_
  refine Ops.put rfl rfl (ox_lss .tmp .int) ((.app (.one rfl) (.nil))) (.nil) rfl ?_
  refine Ops.put rfl rfl (ox_move .tmp) (.one rfl) (.nil) rfl ?_
  refine Ops.guard rfl rfl rfl rfl (.plain .nil) (fun hG => (ox_fieldAddr_var Call_Kind f23_0)) ⟨rfl, trivial⟩ (.nil) rfl ?_
  refine Ops.guard rfl rfl rfl rfl (.cond (fun h => h) .nil) (fun hG => (ox_load_fld t3)) ⟨rfl, trivial⟩ (.one rfl) rfl ?_
  refine Ops.guard rfl rfl rfl rfl (.cond (fun h => h) .nil) (fun hG => (ox_gtr .tmp .int)) ⟨rfl, trivial⟩ (.nil) rfl ?_
  refine Ops.put rfl rfl ox_pick_or (⟨rfl, rfl, trivial⟩) (.nil) rfl ?_
  refine Ops.nil ?_
  refine PT.sub (σ' := ⟨[(1, _), (15, .val (((decide (a0.Kind < (1 : Int))) || (decide ((6 : Int) < a0.Kind)))))], [(1, .var (a0) [])]⟩) ⟨rfl, rfl, trivial⟩ ⟨rfl, trivial⟩ ?_
  refine PT.cond _ rfl (fun hc1 => ?_) (fun hc1 => ?_)
  · replace hφ := if_then hφ hc1
    refine PT.sub (σ' := ⟨[], []⟩) trivial trivial ?_
    refine PT.seq ?_
    refine PT.region ?_
    refine Ops.put rfl rfl (ox_assign .int) (.nil) (.nil) rfl ?_
    refine Ops.nil ?_
    refine PT.sub (σ' := ⟨[(2, .val ((1 : Int)))], []⟩) ⟨rfl, trivial⟩ trivial ?_
    refine PT.ret ?_
    obtain rfl := Option.some.inj hφ
    exact PT.done hw0 rfl (.tmp rfl rfl .nil) rfl
  · replace hφ := if_else hφ hc1
    refine PT.sub (σ' := ⟨[(1, _)], [(1, .var (a0) [])]⟩) ⟨rfl, trivial⟩ ⟨rfl, trivial⟩ ?_
    refine PT.skip ?_
    refine PT.seq ?_
    refine PT.region ?_
    refine Ops.put rfl rfl (ox_assign .int) (.nil) (.nil) rfl ?_
    refine Ops.put rfl rfl (ox_assign .int) (.nil) (.nil) rfl ?_
    refine Ops.nil ?_
    refine PT.sub (σ' := ⟨[(1, _), (3, .val ((1 : Int))), (4, .val ((255 : Int)))], [(1, .var (a0) [])]⟩) ⟨rfl, rfl, rfl, trivial⟩ ⟨rfl, trivial⟩ ?_
    obtain ⟨k2, hk2, hφ⟩ := J_some hφ
    refine PT.cut (ι := Int × Int × Mk.Call) (fun p => ⟨[(1, .ptr 1 (Lens.id (α := Mk.Call))), (3, .val (p.1)), (4, .val (p.2.1))], [(1, .var (p.2.2) [])]⟩) (fun p => k2 (p.1) (p.2.1) (p.2.2) = some r) ?_ ?_
    · skip
      refine PT.seq ?_
      refine PT.region ?_
      refine Ops.put rfl rfl (ox_fieldAddr_var Call_Kind f23_0) (.one rfl) (.nil) rfl ?_
      refine Ops.put rfl rfl (ox_load_fld t3) (.one rfl) (.one rfl) rfl ?_
      refine Ops.put rfl rfl (ox_eql .tmp .int) ((.app (.one rfl) (.nil))) (.nil) rfl ?_
      refine Ops.nil ?_
      refine PT.sub (σ' := ⟨[(1, _), (3, .val ((1 : Int))), (4, .val ((255 : Int))), (18, .val ((decide (a0.Kind = (5 : Int)))))], [(1, .var (a0) [])]⟩) ⟨rfl, rfl, rfl, rfl, trivial⟩ ⟨rfl, trivial⟩ ?_
      refine PT.cond _ rfl (fun hc3 => ?_) (fun hc3 => ?_)
      · replace hφ := if_then hφ hc3
        refine PT.sub (σ' := ⟨[(1, _)], [(1, .var (a0) [])]⟩) ⟨rfl, trivial⟩ ⟨rfl, trivial⟩ ?_
        refine PT.region ?_
        refine Ops.put rfl rfl (ox_assign .int) (.nil) (.nil) rfl ?_
        refine Ops.put rfl rfl (ox_assign .int) (.nil) (.nil) rfl ?_
        refine Ops.nil ?_
        refine PT.sub (σ' := ⟨[(1, _), (3, .val ((0 : Int))), (4, .val ((0 : Int)))], [(1, .var (a0) [])]⟩) ⟨rfl, rfl, rfl, trivial⟩ ⟨rfl, trivial⟩ ?_
        exact PT.meet ((0 : Int), (0 : Int), a0) hφ ⟨rfl, rfl, rfl, trivial⟩ ⟨rfl, trivial⟩
      · replace hφ := if_else hφ hc3
        refine PT.sub (σ' := ⟨[(1, _), (3, .val ((1 : Int))), (4, .val ((255 : Int)))], [(1, .var (a0) [])]⟩) ⟨rfl, rfl, rfl, trivial⟩ ⟨rfl, trivial⟩ ?_
        refine PT.skip ?_
        exact PT.meet ((1 : Int), (255 : Int), a0) hφ ⟨rfl, rfl, rfl, trivial⟩ ⟨rfl, trivial⟩
    · rintro ⟨x3_k2, x4_k2, y1_k2⟩ hφ
      subst hk2
      refine PT.sub (σ' := ⟨[(1, .ptr 1 (Lens.id (α := Mk.Call))), (3, .val (x3_k2)), (4, .val (x4_k2))], [(1, .var (y1_k2) [])]⟩) ⟨rfl, rfl, rfl, trivial⟩ ⟨rfl, trivial⟩ ?_
      refine PT.seq ?_
      refine PT.region ?_
      refine Ops.put rfl rfl (ox_assign .int) (.nil) (.nil) rfl ?_
      refine Ops.put rfl rfl (ox_assign .int) (.nil) (.nil) rfl ?_
      refine Ops.nil ?_
      refine PT.sub (σ' := ⟨[(1, _), (3, .val (x3_k2)), (4, .val (x4_k2)), (5, .val ((0 : Int))), (6, .val ((0 : Int)))], [(1, .var (y1_k2) [])]⟩) ⟨rfl, rfl, rfl, rfl, rfl, trivial⟩ ⟨rfl, trivial⟩ ?_
      obtain ⟨k4, hk4, hφ⟩ := J_some hφ
      refine PT.cut (ι := Int × Int × Int × Int × Mk.Call) (fun p => ⟨[(1, .ptr 1 (Lens.id (α := Mk.Call))), (3, .val (p.1)), (4, .val (p.2.1)), (5, .val (p.2.2.1)), (6, .val (p.2.2.2.1))], [(1, .var (p.2.2.2.2) [])]⟩) (fun p => k4 (p.1) (p.2.1) (p.2.2.1) (p.2.2.2.1) (p.2.2.2.2) = some r) ?_ ?_
      · skip
        refine PT.seq ?_
        refine PT.region ?_
        refine Ops.put rfl rfl (ox_fieldAddr_var Call_Kind f23_0) (.one rfl) (.nil) rfl ?_
        refine Ops.put rfl rfl (ox_load_fld t3) (.one rfl) (.one rfl) rfl ?_
        refine Ops.put rfl rfl (ox_eql .tmp .int) ((.app (.one rfl) (.nil))) (.nil) rfl ?_
        refine Ops.nil ?_
        refine PT.sub (σ' := ⟨[(1, _), (3, .val (x3_k2)), (4, .val (x4_k2)), (5, .val ((0 : Int))), (6, .val ((0 : Int))), (21, .val ((decide (y1_k2.Kind = (6 : Int)))))], [(1, .var (y1_k2) [])]⟩) ⟨rfl, rfl, rfl, rfl, rfl, rfl, trivial⟩ ⟨rfl, trivial⟩ ?_
        refine PT.cond _ rfl (fun hc5 => ?_) (fun hc5 => ?_)
        · replace hφ := if_then hφ hc5
          refine PT.sub (σ' := ⟨[(1, _), (3, .val (x3_k2)), (4, .val (x4_k2))], [(1, .var (y1_k2) [])]⟩) ⟨rfl, rfl, rfl, trivial⟩ ⟨rfl, trivial⟩ ?_
          refine PT.region ?_
          refine Ops.put rfl rfl (ox_assign .int) (.nil) (.nil) rfl ?_
          refine Ops.put rfl rfl (ox_assign .int) (.nil) (.nil) rfl ?_
          refine Ops.nil ?_
          refine PT.sub (σ' := ⟨[(1, _), (3, .val (x3_k2)), (4, .val (x4_k2)), (5, .val ((1 : Int))), (6, .val ((255 : Int)))], [(1, .var (y1_k2) [])]⟩) ⟨rfl, rfl, rfl, rfl, rfl, trivial⟩ ⟨rfl, trivial⟩ ?_
          exact PT.meet (x3_k2, x4_k2, (1 : Int), (255 : Int), y1_k2) hφ ⟨rfl, rfl, rfl, rfl, rfl, trivial⟩ ⟨rfl, trivial⟩
        · replace hφ := if_else hφ hc5
          refine PT.sub (σ' := ⟨[(1, _), (3, .val (x3_k2)), (4, .val (x4_k2)), (5, .val ((0 : Int))), (6, .val ((0 : Int)))], [(1, .var (y1_k2) [])]⟩) ⟨rfl, rfl, rfl, rfl, rfl, trivial⟩ ⟨rfl, trivial⟩ ?_
          refine PT.skip ?_
          exact PT.meet (x3_k2, x4_k2, (0 : Int), (0 : Int), y1_k2) hφ ⟨rfl, rfl, rfl, rfl, rfl, trivial⟩ ⟨rfl, trivial⟩
      · rintro ⟨x3_k4, x4_k4, x5_k4, x6_k4, y1_k4⟩ hφ
        subst hk4
        refine PT.sub (σ' := ⟨[(1, .ptr 1 (Lens.id (α := Mk.Call))), (3, .val (x3_k4)), (4, .val (x4_k4)), (5, .val (x5_k4)), (6, .val (x6_k4))], [(1, .var (y1_k4) [])]⟩) ⟨rfl, rfl, rfl, rfl, rfl, trivial⟩ ⟨rfl, trivial⟩ ?_
        refine PT.seq ?_
        refine PT.seq ?_
        refine PT.region ?_
        refine Ops.put rfl rfl (ox_fieldAddr_var Call_Name f23_1) (.one rfl) (.nil) rfl ?_
        refine Ops.put rfl rfl (ox_load_fld t3) (.one rfl) (.one rfl) rfl ?_
        refine Ops.put rfl rfl (ox_move .tmp) (.one rfl) (.nil) rfl ?_
        refine Ops.put rfl rfl (ox_lss .tmp .tmp) ((.app (.one rfl) (.one rfl))) (.nil) rfl ?_
        refine Ops.put rfl rfl (ox_move .tmp) (.one rfl) (.nil) rfl ?_
        refine Ops.guard rfl rfl rfl rfl (.plain .nil) (fun hG => (ox_fieldAddr_var Call_Name f23_1)) ⟨rfl, trivial⟩ (.nil) rfl ?_
        refine Ops.guard rfl rfl rfl rfl (.cond (fun h => h) .nil) (fun hG => (ox_load_fld t3)) ⟨rfl, trivial⟩ (.one rfl) rfl ?_
        refine Ops.guard rfl rfl rfl rfl (.plain .nil) (fun hG => (ox_move .tmp)) ⟨rfl, trivial⟩ (.nil) rfl ?_
        refine Ops.guard rfl rfl rfl rfl (.cond (fun h => h) (.cond (fun h => h) .nil)) (fun hG => (ox_gtr .tmp .tmp)) ⟨rfl, rfl, trivial⟩ (.nil) rfl ?_
        refine Ops.put rfl rfl ox_pick_or (⟨rfl, rfl, trivial⟩) (.nil) rfl ?_
        refine Ops.put rfl rfl (ox_move .tmp) (.one rfl) (.nil) rfl ?_
        refine Ops.guard rfl rfl rfl rfl (.plain .nil) (fun hG => (ox_fieldAddr_var Call_Other f23_2)) ⟨rfl, trivial⟩ (.nil) rfl ?_
        refine Ops.guard rfl rfl rfl rfl (.cond (fun h => h) .nil) (fun hG => (ox_load_fld t3)) ⟨rfl, trivial⟩ (.one rfl) rfl ?_
        refine Ops.guard rfl rfl rfl rfl (.plain .nil) (fun hG => (ox_move .tmp)) ⟨rfl, trivial⟩ (.nil) rfl ?_
        refine Ops.guard rfl rfl rfl rfl (.cond (fun h => h) (.cond (fun h => h) .nil)) (fun hG => (ox_lss .tmp .tmp)) ⟨rfl, rfl, trivial⟩ (.nil) rfl ?_
        refine Ops.put rfl rfl ox_pick_or (⟨rfl, rfl, trivial⟩) (.nil) rfl ?_
        refine Ops.put rfl rfl (ox_move .tmp) (.one rfl) (.nil) rfl ?_
        refine Ops.guard rfl rfl rfl rfl (.plain .nil) (fun hG => (ox_fieldAddr_var Call_Other f23_2)) ⟨rfl, trivial⟩ (.nil) rfl ?_
        refine Ops.guard rfl rfl rfl rfl (.cond (fun h => h) .nil) (fun hG => (ox_load_fld t3)) ⟨rfl, trivial⟩ (.one rfl) rfl ?_
        refine Ops.guard rfl rfl rfl rfl (.plain .nil) (fun hG => (ox_move .tmp)) ⟨rfl, trivial⟩ (.nil) rfl ?_
        refine Ops.guard rfl rfl rfl rfl (.cond (fun h => h) (.cond (fun h => h) .nil)) (fun hG => (ox_gtr .tmp .tmp)) ⟨rfl, rfl, trivial⟩ (.nil) rfl ?_
        refine Ops.put rfl rfl ox_pick_or (⟨rfl, rfl, trivial⟩) (.nil) rfl ?_
        refine Ops.nil ?_
        refine PT.sub (σ' := ⟨[(1, _), (43, .val (((((decide (y1_k4.Name < x3_k4)) || (decide (x4_k4 < y1_k4.Name))) || (decide (y1_k4.Other < x5_k4))) || (decide (x6_k4 < y1_k4.Other)))))], [(1, .var (y1_k4) [])]⟩) ⟨rfl, rfl, trivial⟩ ⟨rfl, trivial⟩ ?_
        refine PT.cond _ rfl (fun hc6 => ?_) (fun hc6 => ?_)
        · replace hφ := if_then hφ hc6
          refine PT.sub (σ' := ⟨[], []⟩) trivial trivial ?_
          refine PT.seq ?_
          refine PT.region ?_
          refine Ops.put rfl rfl (ox_assign .int) (.nil) (.nil) rfl ?_
          refine Ops.nil ?_
          refine PT.sub (σ' := ⟨[(2, .val ((7 : Int)))], []⟩) ⟨rfl, trivial⟩ trivial ?_
          refine PT.ret ?_
          obtain rfl := Option.some.inj hφ
          exact PT.done hw0 rfl (.tmp rfl rfl .nil) rfl
        · replace hφ := if_else hφ hc6
          refine PT.sub (σ' := ⟨[(1, _)], [(1, .var (y1_k4) [])]⟩) ⟨rfl, trivial⟩ ⟨rfl, trivial⟩ ?_
          refine PT.skip ?_
          refine PT.seq ?_
          refine PT.region ?_
          refine Ops.put rfl rfl (ox_assign .int) (.nil) (.nil) rfl ?_
          refine Ops.nil ?_
          refine PT.sub (σ' := ⟨[(1, _), (7, .val ((0 : Int)))], [(1, .var (y1_k4) [])]⟩) ⟨rfl, rfl, trivial⟩ ⟨rfl, trivial⟩ ?_
          obtain ⟨k7, hk7, hφ⟩ := J_some hφ
          refine PT.cut (ι := Int × Mk.Call) (fun p => ⟨[(1, .ptr 1 (Lens.id (α := Mk.Call))), (7, .val (p.1))], [(1, .var (p.2) [])]⟩) (fun p => k7 (p.1) (p.2) = some r) ?_ ?_
          · skip
            refine PT.seq ?_
            refine PT.region ?_
            refine Ops.put rfl rfl (ox_fieldAddr_var Call_Kind f23_0) (.one rfl) (.nil) rfl ?_
            refine Ops.put rfl rfl (ox_load_fld t3) (.one rfl) (.one rfl) rfl ?_
            refine Ops.put rfl rfl (ox_eql .tmp .int) ((.app (.one rfl) (.nil))) (.nil) rfl ?_
            refine Ops.put rfl rfl (ox_move .tmp) (.one rfl) (.nil) rfl ?_
            refine Ops.guard rfl rfl rfl rfl (.plain .nil) (fun hG => (ox_fieldAddr_var Call_Kind f23_0)) ⟨rfl, trivial⟩ (.nil) rfl ?_
            refine Ops.guard rfl rfl rfl rfl (.cond (fun h => h) .nil) (fun hG => (ox_load_fld t3)) ⟨rfl, trivial⟩ (.one rfl) rfl ?_
            refine Ops.guard rfl rfl rfl rfl (.cond (fun h => h) .nil) (fun hG => (ox_eql .tmp .int)) ⟨rfl, trivial⟩ (.nil) rfl ?_
            refine Ops.put rfl rfl ox_pick_or (⟨rfl, rfl, trivial⟩) (.nil) rfl ?_
            refine Ops.nil ?_
            refine PT.sub (σ' := ⟨[(1, _), (7, .val ((0 : Int))), (51, .val (((decide (y1_k4.Kind = (1 : Int))) || (decide (y1_k4.Kind = (4 : Int))))))], [(1, .var (y1_k4) [])]⟩) ⟨rfl, rfl, rfl, trivial⟩ ⟨rfl, trivial⟩ ?_
            refine PT.cond _ rfl (fun hc8 => ?_) (fun hc8 => ?_)
            · replace hφ := if_then hφ hc8
              refine PT.sub (σ' := ⟨[(1, _)], [(1, .var (y1_k4) [])]⟩) ⟨rfl, trivial⟩ ⟨rfl, trivial⟩ ?_
              refine PT.region ?_
              refine Ops.put rfl rfl (ox_assign .int) (.nil) (.nil) rfl ?_
              refine Ops.nil ?_
              refine PT.sub (σ' := ⟨[(1, _), (7, .val ((1073741824 : Int)))], [(1, .var (y1_k4) [])]⟩) ⟨rfl, rfl, trivial⟩ ⟨rfl, trivial⟩ ?_
              exact PT.meet ((1073741824 : Int), y1_k4) hφ ⟨rfl, rfl, trivial⟩ ⟨rfl, trivial⟩
            · replace hφ := if_else hφ hc8
              refine PT.sub (σ' := ⟨[(1, _), (7, .val ((0 : Int)))], [(1, .var (y1_k4) [])]⟩) ⟨rfl, rfl, trivial⟩ ⟨rfl, trivial⟩ ?_
              refine PT.skip ?_
              exact PT.meet ((0 : Int), y1_k4) hφ ⟨rfl, rfl, trivial⟩ ⟨rfl, trivial⟩
          · rintro ⟨x7_k7, y1_k7⟩ hφ
            subst hk7
            refine PT.sub (σ' := ⟨[(1, .ptr 1 (Lens.id (α := Mk.Call))), (7, .val (x7_k7))], [(1, .var (y1_k7) [])]⟩) ⟨rfl, rfl, trivial⟩ ⟨rfl, trivial⟩ ?_
            refine PT.seq ?_
            refine PT.seq ?_
            obtain ⟨hb9, hφ⟩ := G_some hφ
            refine PT.region ?_
            refine Ops.put rfl rfl (ox_fieldAddr_var Call_N f23_3) (.one rfl) (.nil) rfl ?_
            refine Ops.put rfl rfl (ox_load_fld t3) (.one rfl) (.one rfl) rfl ?_
            refine Ops.put rfl rfl (ox_move .tmp) (.one rfl) (.nil) rfl ?_
            refine Ops.put rfl rfl (ox_neg .tmp hb9) (.one rfl) (.nil) rfl ?_
            refine Ops.put rfl rfl (ox_lss .tmp .tmp) ((.app (.one rfl) (.one rfl))) (.nil) rfl ?_
            refine Ops.put rfl rfl (ox_move .tmp) (.one rfl) (.nil) rfl ?_
            refine Ops.guard rfl rfl rfl rfl (.plain .nil) (fun hG => (ox_fieldAddr_var Call_N f23_3)) ⟨rfl, trivial⟩ (.nil) rfl ?_
            refine Ops.guard rfl rfl rfl rfl (.cond (fun h => h) .nil) (fun hG => (ox_load_fld t3)) ⟨rfl, trivial⟩ (.one rfl) rfl ?_
            refine Ops.guard rfl rfl rfl rfl (.plain .nil) (fun hG => (ox_move .tmp)) ⟨rfl, trivial⟩ (.nil) rfl ?_
            refine Ops.guard rfl rfl rfl rfl (.cond (fun h => h) (.cond (fun h => h) .nil)) (fun hG => (ox_gtr .tmp .tmp)) ⟨rfl, rfl, trivial⟩ (.nil) rfl ?_
            refine Ops.put rfl rfl ox_pick_or (⟨rfl, rfl, trivial⟩) (.nil) rfl ?_
            refine Ops.nil ?_
            refine PT.sub (σ' := ⟨[(62, .val (((decide (y1_k7.N < (-x7_k7))) || (decide (x7_k7 < y1_k7.N)))))], []⟩) ⟨rfl, trivial⟩ trivial ?_
            refine PT.cond _ rfl (fun hc10 => ?_) (fun hc10 => ?_)
            · replace hφ := if_then hφ hc10
              refine PT.sub (σ' := ⟨[], []⟩) trivial trivial ?_
              refine PT.seq ?_
              refine PT.region ?_
              refine Ops.put rfl rfl (ox_assign .int) (.nil) (.nil) rfl ?_
              refine Ops.nil ?_
              refine PT.sub (σ' := ⟨[(2, .val ((3 : Int)))], []⟩) ⟨rfl, trivial⟩ trivial ?_
              refine PT.ret ?_
              obtain rfl := Option.some.inj hφ
              exact PT.done hw0 rfl (.tmp rfl rfl .nil) rfl
            · replace hφ := if_else hφ hc10
              refine PT.sub (σ' := ⟨[], []⟩) trivial trivial ?_
              refine PT.skip ?_
              refine PT.seq ?_
              refine PT.region ?_
              refine Ops.put rfl rfl (ox_assign .int) (.nil) (.nil) rfl ?_
              refine Ops.nil ?_
              refine PT.sub (σ' := ⟨[(2, .val ((0 : Int)))], []⟩) ⟨rfl, trivial⟩ trivial ?_
              refine PT.ret ?_
              obtain rfl := Option.some.inj hφ
              exact PT.done hw0 rfl (.tmp rfl rfl .nil) rfl
theorem c_mkref1_Of {a0 : List Int} {r : ((List Mk.Write))} (hφ : mkref1_Of a0 = some r) : Fn Go.Proofs.Try.prog 82 [.val a0] (.val r) := by
  unfold mkref1_Of at hφ
  refine Fn.mk' Go.Proofs.Try.func82 rfl (by decide) rfl rfl rfl (fun w0 hw0 => ?_)
  refine PT.seq ?_
  refine PT.region ?_
  refine Ops.put rfl rfl (ox_assign .nilS) (.nil) (.nil) rfl ?_
  refine Ops.nil ?_
  refine PT.sub (σ' := ⟨[(0, .val (a0))], []⟩) ⟨rfl, trivial⟩ trivial ?_
  refine PT.seq ?_
  refine PT.region ?_
  refine Ops.put rfl rfl (ox_assign .nilS) (.nil) (.nil) rfl ?_
  refine Ops.nil ?_
  refine PT.sub (σ' := ⟨[(0, .val (a0)), (3, .nilS)], []⟩) ⟨rfl, rfl, trivial⟩ trivial ?_
  obtain ⟨k1, hk1, hφ⟩ := J_some hφ
  refine PT.cut (ι := (List Mk.Write)) (fun p => ⟨[(3, .sl 1003)], [(1003, .arr 50 (p))]⟩) (fun p => k1 (p) = some r) ?_ ?_
  · skip
    refine PT.seq ?_
    refine PT.region ?_
    refine Ops.put rfl rfl (ox_assign .int) (.nil) (.nil) rfl ?_
    refine Ops.nil ?_
    refine PT.sub (σ' := ⟨[(0, .val (a0)), (3, .nilS), (4, .val ((1 : Int)))], []⟩) ⟨rfl, rfl, rfl, trivial⟩ trivial ?_
    refine PT.block ?_
    refine PT.nilArr 1003 3 50 (Mk.Write) rfl (by kernel_rfl) ?_
    refine PT.loop (ι := Nat × (List Int) × Int × (List Mk.Write)) (fun p => ⟨[(0, .val (p.2.1)), (3, .sl 1003), (4, .val (p.2.2.1))], [(1003, .arr 50 (p.2.2.2))]⟩) (fun p => mkref1_Of_l1 k1 p.1 (p.2.1) (p.2.2.1) (p.2.2.2) = some r) (fun p => p.1) ((((1 : Int) + ((2 : Int) * (ix a0 (0 : Int)))) - (1 : Int)).toNat + 1, a0, (1 : Int), ([] : List Mk.Write)) hφ ⟨rfl, rfl, rfl, trivial⟩ ⟨rfl, trivial⟩ ?_
    rintro ⟨m2, x0_m2, x4_m2, y1003_m2⟩ (hφ : mkref1_Of_l1 k1 m2 x0_m2 x4_m2 y1003_m2 = some r)
    obtain _ | m2 := m2
    · exact (none_no hφ).elim
    rw [mkref1_Of_l1.eq_2] at hφ
    refine PT.sub (σ' := ⟨[(0, .val (x0_m2)), (3, .sl 1003), (4, .val (x4_m2))], [(1003, .arr 50 (y1003_m2))]⟩) ⟨rfl, rfl, rfl, trivial⟩ ⟨rfl, trivial⟩ ?_
    refine PT.seq ?_
    refine PT.seq ?_
    obtain ⟨hb3, hφ⟩ := G_some hφ
    obtain ⟨hb4, hφ⟩ := G_some hφ
    obtain ⟨hb5, hφ⟩ := G_some hφ
    refine PT.region ?_
    refine Ops.put rfl rfl (ox_move .tmp) (.one rfl) (.nil) rfl ?_
    refine Ops.put rfl rfl (ox_move .tmp) (.one rfl) (.nil) rfl ?_
    refine Ops.put rfl rfl (ox_ix s43 .tmp .int hb3.1 hb3.2) ((.app (.one rfl) (.nil))) (.nil) rfl ?_
    refine Ops.put rfl rfl (ox_load_elem t3) (.one rfl) (.nil) rfl ?_
    refine Ops.put rfl rfl (ox_mul .int .tmp hb4) ((.app (.nil) (.one rfl))) (.nil) rfl ?_
    refine Ops.put rfl rfl (ox_add .int .tmp hb5) ((.app (.nil) (.one rfl))) (.nil) rfl ?_
    refine Ops.put rfl rfl (ox_lss .tmp .tmp) ((.app (.one rfl) (.one rfl))) (.nil) rfl ?_
    refine Ops.nil ?_
    refine PT.sub (σ' := ⟨[(0, .val (x0_m2)), (3, _), (4, .val (x4_m2)), (11, .val ((decide (x4_m2 < ((1 : Int) + ((2 : Int) * (ix x0_m2 (0 : Int))))))))], [(1003, .arr 50 (y1003_m2))]⟩) ⟨rfl, rfl, rfl, rfl, trivial⟩ ⟨rfl, trivial⟩ ?_
    refine PT.cond _ rfl (fun hc6 => ?_) (fun hc6 => ?_)
    · replace hφ := if_then hφ hc6
      refine PT.sub (σ' := ⟨[(0, .val (x0_m2)), (3, _), (4, .val (x4_m2))], [(1003, .arr 50 (y1003_m2))]⟩) ⟨rfl, rfl, rfl, trivial⟩ ⟨rfl, trivial⟩ ?_
      refine PT.skip ?_
      refine PT.seq ?_
      refine PT.block ?_
      obtain ⟨hb7, hφ⟩ := G_some hφ
      obtain ⟨hb8, hφ⟩ := G_some hφ
      obtain ⟨hb9, hφ⟩ := G_some hφ
      obtain ⟨hb10, hφ⟩ := G_some hφ
      refine PT.draw hMixed (
          Segs.cons (Step.put rfl rfl (ox_move .tmp)) ⟨.one rfl, .nil⟩ (by kernel_rfl) rfl <|
          Segs.cons (Step.put rfl rfl (ox_move .tmp)) ⟨.one rfl, .nil⟩ (by kernel_rfl) rfl <|
          Segs.cons (Step.put rfl rfl (ox_move .tmp)) ⟨.one rfl, .nil⟩ (by kernel_rfl) rfl <|
          Segs.cons (Step.put rfl rfl (ox_ix s43 .tmp .tmp hb7.1 hb7.2)) ⟨(.app (.one rfl) (.one rfl)), .nil⟩ (by kernel_rfl) rfl <|
          Segs.cons (Step.put rfl rfl (ox_load_elem t3)) ⟨.one rfl, .nil⟩ (by kernel_rfl) rfl <|
          Segs.cons (Step.put rfl rfl (ox_move .tmp)) ⟨.one rfl, .nil⟩ (by kernel_rfl) rfl <|
          Segs.cons (Step.put rfl rfl (ox_move .tmp)) ⟨.one rfl, .nil⟩ (by kernel_rfl) rfl <|
          Segs.cons (Step.put rfl rfl (ox_add .tmp .int hb8)) ⟨(.app (.one rfl) (.nil)), .nil⟩ (by kernel_rfl) rfl <|
          Segs.cons (Step.put rfl rfl (ox_ix s43 .tmp .tmp hb9.1 hb9.2)) ⟨(.app (.one rfl) (.one rfl)), .nil⟩ (by kernel_rfl) rfl <|
          Segs.cons (Step.put rfl rfl (ox_load_elem t3)) ⟨.one rfl, .nil⟩ (by kernel_rfl) rfl <|
          Segs.cons (Step.put rfl rfl (ox_buildB z50 u50 rfl (.cons Write_At f50_0 .tmp (.cons Write_N f50_1 .tmp Bld.nil)))) ⟨(.app (.one rfl) (.app (.one rfl) .nil)), .nil⟩ (by kernel_rfl) rfl <|
          Segs.cons (Step.put rfl rfl (ox_buildSlice_val s44 z50 (.cons .tmp Parts.nil) rfl (by decide))) ⟨(.app (.one rfl) .nil), .nil⟩ (by kernel_rfl) rfl <|
          Segs.cons (Step.putK [3, 14] rfl rfl (ox_append a44 .tmp .tmp hb10.1 hb10.2)) ⟨(.app (.one rfl) (.one rfl)), .one rfl⟩ (by kernel_rfl) rfl <|
          Segs.cons (Step.put rfl rfl (ox_assign .tmp)) ⟨.one rfl, .nil⟩ (by kernel_rfl) rfl <|
          Segs.nil) _ [[], [], [], [1, 2], [1, 2, 3], [], [], [6], [5, 6, 7], [5, 6, 7, 8], [1, 2, 3, 4, 5, 6, 7, 8, 9], [1, 2, 3, 4, 5, 6, 7, 8, 9, 10], [0, 1, 2, 3, 4, 5, 6, 7, 8, 9, 10, 11], [0, 1, 2, 3, 4, 5, 6, 7, 8, 9, 10, 11, 12]] rfl (by kernel_rfl) (by kernel_rfl) ?_
      refine PT.sub (σ' := ⟨[(0, .val (x0_m2)), (3, _), (4, .val (x4_m2))], [(1003, .arr 50 ((y1003_m2 ++ ([({ At := (ix x0_m2 x4_m2), N := (ix x0_m2 (x4_m2 + (1 : Int))) } : Mk.Write)] : List Mk.Write))))]⟩) ⟨rfl, rfl, rfl, trivial⟩ ⟨rfl, trivial⟩ ?_
      obtain ⟨hb11, hφ⟩ := G_some hφ
      refine PT.region ?_
      refine Ops.put rfl rfl (ox_move .tmp) (.one rfl) (.nil) rfl ?_
      refine Ops.put rfl rfl (ox_add .tmp .int hb11) ((.app (.one rfl) (.nil))) (.nil) rfl ?_
      refine Ops.put rfl rfl (ox_assign .tmp) (.one rfl) (.nil) rfl ?_
      refine Ops.nil ?_
      refine PT.sub (σ' := ⟨[(0, .val (x0_m2)), (3, _), (4, .val ((x4_m2 + (2 : Int))))], [(1003, .arr 50 ((y1003_m2 ++ ([({ At := (ix x0_m2 x4_m2), N := (ix x0_m2 (x4_m2 + (1 : Int))) } : Mk.Write)] : List Mk.Write))))]⟩) ⟨rfl, rfl, rfl, trivial⟩ ⟨rfl, trivial⟩ ?_
      exact PT.next (m2, x0_m2, (x4_m2 + (2 : Int)), (y1003_m2 ++ ([({ At := (ix x0_m2 x4_m2), N := (ix x0_m2 (x4_m2 + (1 : Int))) } : Mk.Write)] : List Mk.Write))) hφ (Nat.lt_succ_self _) ⟨rfl, rfl, rfl, trivial⟩ ⟨rfl, trivial⟩
    · replace hφ := if_else hφ hc6
      refine PT.sub (σ' := ⟨[(3, _)], [(1003, .arr 50 (y1003_m2))]⟩) ⟨rfl, trivial⟩ ⟨rfl, trivial⟩ ?_
      refine PT.exit ?_
      exact PT.meet (y1003_m2) hφ ⟨rfl, trivial⟩ ⟨rfl, trivial⟩
  · rintro y1003_k1 hφ
    subst hk1
    refine PT.sub (σ' := ⟨[(3, .sl 1003)], [(1003, .arr 50 (y1003_k1))]⟩) ⟨rfl, trivial⟩ ⟨rfl, trivial⟩ ?_
    refine PT.seq ?_
    refine PT.region ?_
    refine Ops.put rfl rfl (ox_move .tmp) (.one rfl) (.nil) rfl ?_
    refine Ops.put rfl rfl (ox_assign .tmp) (.one rfl) (.nil) rfl ?_
    refine Ops.nil ?_
    refine PT.sub (σ' := ⟨[(2, _)], [(1003, .arr 50 (y1003_k1))]⟩) ⟨rfl, trivial⟩ ⟨rfl, trivial⟩ ?_
    refine PT.ret ?_
    refine PT.freeze 1003 [2] rfl ⟨rfl, trivial⟩ ?_
    obtain rfl := Option.some.inj hφ
    exact PT.done hw0 rfl (.tmp rfl rfl .nil) rfl
theorem c_mkref1_get {a0 : List Mk.Write} {a1 : Int} {r : (Int × Bool)} (hφ : mkref1_get a0 a1 = some r) : Fn Go.Proofs.Try.prog 111 [.val a0, .val a1] (.tup [.val r.1, .val r.2]) := by
  unfold mkref1_get at hφ
  refine Fn.mk' Go.Proofs.Try.func111 rfl (by decide) rfl rfl rfl (fun w0 hw0 => ?_)
  refine PT.seq ?_
  refine PT.region ?_
  refine Ops.put rfl rfl (ox_assign .int) (.nil) (.nil) rfl ?_
  refine Ops.put rfl rfl (ox_assign .bool) (.nil) (.nil) rfl ?_
  refine Ops.nil ?_
  refine PT.sub (σ' := ⟨[(0, .val (a0)), (1, .val (a1))], []⟩) ⟨rfl, rfl, trivial⟩ trivial ?_
  obtain ⟨k1, hk1, hφ⟩ := J_some hφ
  refine PT.cut (ι := Unit) (fun p => ⟨[], []⟩) (fun p => k1 () = some r) ?_ ?_
  · skip
    refine PT.seq ?_
    refine PT.region ?_
    refine Ops.put rfl rfl (ox_move .tmp) (.one rfl) (.nil) rfl ?_
    refine Ops.put rfl rfl (ox_len s44 .tmp) (.one rfl) (.nil) rfl ?_
    refine Ops.put rfl rfl (ox_move .int) (.nil) (.nil) rfl ?_
    refine Ops.nil ?_
    refine PT.sub (σ' := ⟨[(1, .val (a1)), (8, .val (a0)), (9, .val ((a0.length : Int))), (10, .val ((0 : Int)))], []⟩) ⟨rfl, rfl, rfl, rfl, trivial⟩ trivial ?_
    refine PT.block ?_
    refine PT.loop (ι := Nat × Int × (List Mk.Write) × Int × Int) (fun p => ⟨[(1, .val (p.2.1)), (8, .val (p.2.2.1)), (9, .val (p.2.2.2.1)), (10, .val (p.2.2.2.2))], []⟩) (fun p => mkref1_get_l1 k1 p.1 (p.2.1) (p.2.2.1) (p.2.2.2.1) (p.2.2.2.2) = some r) (fun p => p.1) (((a0.length : Int) - (0 : Int)).toNat + 1, a1, a0, (a0.length : Int), (0 : Int)) hφ ⟨rfl, rfl, rfl, rfl, trivial⟩ trivial ?_
    rintro ⟨m2, x1_m2, x8_m2, x9_m2, x10_m2⟩ (hφ : mkref1_get_l1 k1 m2 x1_m2 x8_m2 x9_m2 x10_m2 = some r)
    obtain _ | m2 := m2
    · exact (none_no hφ).elim
    rw [mkref1_get_l1.eq_2] at hφ
    refine PT.sub (σ' := ⟨[(1, .val (x1_m2)), (8, .val (x8_m2)), (9, .val (x9_m2)), (10, .val (x10_m2))], []⟩) ⟨rfl, rfl, rfl, rfl, trivial⟩ trivial ?_
    refine PT.seq ?_
    refine PT.region ?_
    refine Ops.put rfl rfl (ox_lss .tmp .tmp) ((.app (.one rfl) (.one rfl))) (.nil) rfl ?_
    refine Ops.nil ?_
    refine PT.sub (σ' := ⟨[(1, .val (x1_m2)), (8, .val (x8_m2)), (9, .val (x9_m2)), (10, .val (x10_m2)), (11, .val ((decide (x10_m2 < x9_m2))))], []⟩) ⟨rfl, rfl, rfl, rfl, rfl, trivial⟩ trivial ?_
    refine PT.seq ?_
    refine PT.cond _ rfl (fun hc3 => ?_) (fun hc3 => ?_)
    · replace hφ := if_then hφ hc3
      refine PT.sub (σ' := ⟨[(1, .val (x1_m2)), (8, .val (x8_m2)), (9, .val (x9_m2)), (10, .val (x10_m2))], []⟩) ⟨rfl, rfl, rfl, rfl, trivial⟩ trivial ?_
      refine PT.skip ?_
      refine PT.seq ?_
      refine PT.block ?_
      refine PT.seq ?_
      obtain ⟨hb4, hφ⟩ := G_some hφ
      refine PT.region ?_
      refine Ops.put rfl rfl (ox_ix s44 .tmp .tmp hb4.1 hb4.2) ((.app (.one rfl) (.one rfl))) (.nil) rfl ?_
      refine Ops.put rfl rfl (ox_load_elem t50) (.one rfl) (.nil) rfl ?_
      refine Ops.putO rfl rfl (ox_alloc (id := 7) z50) (.nil) (.nil) rfl (by kernel_rfl) ?_
      refine Ops.mute rfl rfl (ox_store_var t50 .tmp) ((.cons rfl (.one rfl))) (.one rfl) ?_
      refine Ops.nil ?_
      refine PT.sub (σ' := ⟨[(1, .val (x1_m2)), (7, _), (8, .val (x8_m2)), (9, .val (x9_m2)), (10, .val (x10_m2))], [(7, .var ((ix x8_m2 x10_m2)) [])]⟩) ⟨rfl, rfl, rfl, rfl, rfl, trivial⟩ ⟨rfl, trivial⟩ ?_
      refine PT.seq ?_
      refine PT.region ?_
      refine Ops.put rfl rfl (ox_fieldAddr_var Write_At f50_0) (.one rfl) (.nil) rfl ?_
      refine Ops.put rfl rfl (ox_load_fld t3) (.one rfl) (.one rfl) rfl ?_
      refine Ops.put rfl rfl (ox_move .tmp) (.one rfl) (.nil) rfl ?_
      refine Ops.put rfl rfl (ox_eql .tmp .tmp) ((.app (.one rfl) (.one rfl))) (.nil) rfl ?_
      refine Ops.nil ?_
      refine PT.sub (σ' := ⟨[(1, .val (x1_m2)), (7, _), (8, .val (x8_m2)), (9, .val (x9_m2)), (10, .val (x10_m2)), (17, .val ((decide ((ix x8_m2 x10_m2).At = x1_m2))))], [(7, .var ((ix x8_m2 x10_m2)) [])]⟩) ⟨rfl, rfl, rfl, rfl, rfl, rfl, trivial⟩ ⟨rfl, trivial⟩ ?_
      refine PT.cond _ rfl (fun hc5 => ?_) (fun hc5 => ?_)
      · replace hφ := if_then hφ hc5
        refine PT.sub (σ' := ⟨[(7, _)], [(7, .var ((ix x8_m2 x10_m2)) [])]⟩) ⟨rfl, trivial⟩ ⟨rfl, trivial⟩ ?_
        refine PT.seq ?_
        refine PT.region ?_
        refine Ops.put rfl rfl (ox_fieldAddr_var Write_N f50_1) (.one rfl) (.nil) rfl ?_
        refine Ops.put rfl rfl (ox_load_fld t3) (.one rfl) (.one rfl) rfl ?_
        refine Ops.put rfl rfl (ox_assign .tmp) (.one rfl) (.nil) rfl ?_
        refine Ops.put rfl rfl (ox_assign .bool) (.nil) (.nil) rfl ?_
        refine Ops.nil ?_
        refine PT.sub (σ' := ⟨[(4, .val ((ix x8_m2 x10_m2).N)), (5, .val (true))], []⟩) ⟨rfl, rfl, trivial⟩ trivial ?_
        refine PT.ret ?_
        obtain rfl := Option.some.inj hφ
        exact PT.done hw0 rfl (.tmp rfl rfl (.tmp rfl rfl .nil)) rfl
      · replace hφ := if_else hφ hc5
        refine PT.sub (σ' := ⟨[(1, .val (x1_m2)), (8, .val (x8_m2)), (9, .val (x9_m2)), (10, .val (x10_m2))], []⟩) ⟨rfl, rfl, rfl, rfl, trivial⟩ trivial ?_
        refine PT.skip ?_
        obtain ⟨hb6, hφ⟩ := G_some hφ
        refine PT.region ?_
        refine Ops.put rfl rfl (ox_add .tmp .int hb6) ((.app (.one rfl) (.nil))) (.nil) rfl ?_
        refine Ops.put rfl rfl (ox_move .tmp) (.one rfl) (.nil) rfl ?_
        refine Ops.nil ?_
        refine PT.sub (σ' := ⟨[(1, .val (x1_m2)), (8, .val (x8_m2)), (9, .val (x9_m2)), (10, .val ((x10_m2 + (1 : Int))))], []⟩) ⟨rfl, rfl, rfl, rfl, trivial⟩ trivial ?_
        exact PT.next (m2, x1_m2, x8_m2, x9_m2, (x10_m2 + (1 : Int))) hφ (Nat.lt_succ_self _) ⟨rfl, rfl, rfl, rfl, trivial⟩ trivial
    · replace hφ := if_else hφ hc3
      refine PT.sub (σ' := ⟨[], []⟩) trivial trivial ?_
      refine PT.exit ?_
      exact PT.meet () hφ trivial trivial
  · rintro ⟨⟩ hφ
    subst hk1
    refine PT.sub (σ' := ⟨[], []⟩) trivial trivial ?_
    refine PT.seq ?_
    refine PT.region ?_
    refine Ops.put rfl rfl (ox_assign .int) (.nil) (.nil) rfl ?_
    refine Ops.put rfl rfl (ox_assign .bool) (.nil) (.nil) rfl ?_
    refine Ops.nil ?_
    refine PT.sub (σ' := ⟨[(4, .val ((0 : Int))), (5, .val (false))], []⟩) ⟨rfl, rfl, trivial⟩ trivial ?_
    refine PT.ret ?_
    obtain rfl := Option.some.inj hφ
    exact PT.done hw0 rfl (.tmp rfl rfl (.tmp rfl rfl .nil)) rfl
theorem c_mkref1_Do_1 {a0 : Int} {a1 : List Mk.Write} {r : ((List Mk.Write) × Mk.Reply)} (hφ : mkref1_Do_1 a0 a1 = some r) : Fn Go.Proofs.Try.prog 112 [.val a0, .elem a1] (.tup [.val r.1, .val r.2]) := by
  unfold mkref1_Do_1 at hφ
  refine Fn.mk' Go.Proofs.Try.func112 rfl (by decide) rfl rfl rfl (fun w0 hw0 => ?_)
  refine PT.seq ?_
  refine PT.region ?_
  refine Ops.put rfl rfl (ox_assign .nilS) (.nil) (.nil) rfl ?_
  refine Ops.putO rfl rfl (ox_alloc (id := 4) z28) (.nil) (.nil) rfl (by kernel_rfl) ?_
  refine Ops.nil ?_
  refine PT.sub (σ' := ⟨[(0, .val (a0)), (1, .elem (a1)), (4, _)], [(4, .var (({ Err := (0 : Int), N := (0 : Int) } : Mk.Reply)) [])]⟩) ⟨rfl, rfl, rfl, trivial⟩ ⟨rfl, trivial⟩ ?_
  refine PT.seq ?_
  refine PT.region ?_
  refine Ops.put rfl rfl (ox_load_elem t44) (.one rfl) (.nil) rfl ?_
  refine Ops.put rfl rfl (ox_move .tmp) (.one rfl) (.nil) rfl ?_
  refine Ops.put rfl rfl (ox_buildB z28 u28 rfl (.cons Reply_Err f28_0 .tmp Bld.nil)) ((.app (.one rfl) .nil)) (.nil) rfl ?_
  refine Ops.put rfl rfl (ox_assign .tmp) (.one rfl) (.nil) rfl ?_
  refine Ops.mute rfl rfl (ox_store_var t28 .tmp) ((.cons rfl (.one rfl))) (.one rfl) ?_
  refine Ops.nil ?_
  refine PT.sub (σ' := ⟨[(3, .val (a1)), (4, _)], [(4, .var (({ Err := a0, N := (0 : Int) } : Mk.Reply)) [])]⟩) ⟨rfl, rfl, trivial⟩ ⟨rfl, trivial⟩ ?_
  refine PT.ret ?_
  obtain rfl := Option.some.inj hφ
  exact PT.done hw0 rfl (.tmp rfl rfl (.cell t28 rfl rfl .nil)) rfl
theorem c_mkref1_set {a0 : List Mk.Write} {a1 : Int} {a2 : Int} {r : ((List Mk.Write))} (hφ : mkref1_set a0 a1 a2 = some r) : Fn Go.Proofs.Try.prog 113 [.val a0, .val a1, .val a2] (.val r) := by
  unfold mkref1_set at hφ
  refine Fn.mk' Go.Proofs.Try.func113 rfl (by decide) rfl rfl rfl (fun w0 hw0 => ?_)
  refine PT.seq ?_
  refine PT.region ?_
  refine Ops.put rfl rfl (ox_assign .nilS) (.nil) (.nil) rfl ?_
  refine Ops.nil ?_
  refine PT.sub (σ' := ⟨[(0, .val (a0)), (1, .val (a1)), (2, .val (a2))], []⟩) ⟨rfl, rfl, rfl, trivial⟩ trivial ?_
  refine PT.seq ?_
  refine PT.region ?_
  refine Ops.put rfl rfl (ox_assign .nilS) (.nil) (.nil) rfl ?_
  refine Ops.nil ?_
  refine PT.sub (σ' := ⟨[(0, .val (a0)), (1, .val (a1)), (2, .val (a2)), (7, .nilS)], []⟩) ⟨rfl, rfl, rfl, rfl, trivial⟩ trivial ?_
  refine PT.seq ?_
  refine PT.region ?_
  refine Ops.put rfl rfl (ox_assign .bool) (.nil) (.nil) rfl ?_
  refine Ops.nil ?_
  refine PT.sub (σ' := ⟨[(0, .val (a0)), (1, .val (a1)), (2, .val (a2)), (7, .nilS), (8, .val (false))], []⟩) ⟨rfl, rfl, rfl, rfl, rfl, trivial⟩ trivial ?_
  obtain ⟨k1, hk1, hφ⟩ := J_some hφ
  refine PT.cut (ι := Int × Int × Bool × (List Mk.Write)) (fun p => ⟨[(1, .val (p.1)), (2, .val (p.2.1)), (7, .sl 1007), (8, .val (p.2.2.1))], [(1007, .arr 50 (p.2.2.2))]⟩) (fun p => k1 (p.1) (p.2.1) (p.2.2.1) (p.2.2.2) = some r) ?_ ?_
  · skip
    refine PT.seq ?_
    refine PT.region ?_
    refine Ops.put rfl rfl (ox_move .tmp) (.one rfl) (.nil) rfl ?_
    refine Ops.put rfl rfl (ox_len s44 .tmp) (.one rfl) (.nil) rfl ?_
    refine Ops.put rfl rfl (ox_move .int) (.nil) (.nil) rfl ?_
    refine Ops.nil ?_
    refine PT.sub (σ' := ⟨[(1, .val (a1)), (2, .val (a2)), (7, .nilS), (8, .val (false)), (11, .val (a0)), (12, .val ((a0.length : Int))), (13, .val ((0 : Int)))], []⟩) ⟨rfl, rfl, rfl, rfl, rfl, rfl, rfl, trivial⟩ trivial ?_
    refine PT.block ?_
    refine PT.nilArr 1007 7 50 (Mk.Write) rfl (by kernel_rfl) ?_
    refine PT.loop (ι := Nat × Int × Int × Bool × (List Mk.Write) × Int × Int × (List Mk.Write)) (fun p => ⟨[(1, .val (p.2.1)), (2, .val (p.2.2.1)), (7, .sl 1007), (8, .val (p.2.2.2.1)), (11, .val (p.2.2.2.2.1)), (12, .val (p.2.2.2.2.2.1)), (13, .val (p.2.2.2.2.2.2.1))], [(1007, .arr 50 (p.2.2.2.2.2.2.2))]⟩) (fun p => mkref1_set_l1 k1 p.1 (p.2.1) (p.2.2.1) (p.2.2.2.1) (p.2.2.2.2.1) (p.2.2.2.2.2.1) (p.2.2.2.2.2.2.1) (p.2.2.2.2.2.2.2) = some r) (fun p => p.1) (((a0.length : Int) - (0 : Int)).toNat + 1, a1, a2, false, a0, (a0.length : Int), (0 : Int), ([] : List Mk.Write)) hφ ⟨rfl, rfl, rfl, rfl, rfl, rfl, rfl, trivial⟩ ⟨rfl, trivial⟩ ?_
    rintro ⟨m2, x1_m2, x2_m2, x8_m2, x11_m2, x12_m2, x13_m2, y1007_m2⟩ (hφ : mkref1_set_l1 k1 m2 x1_m2 x2_m2 x8_m2 x11_m2 x12_m2 x13_m2 y1007_m2 = some r)
    obtain _ | m2 := m2
    · exact (none_no hφ).elim
    rw [mkref1_set_l1.eq_2] at hφ
    refine PT.sub (σ' := ⟨[(1, .val (x1_m2)), (2, .val (x2_m2)), (7, .sl 1007), (8, .val (x8_m2)), (11, .val (x11_m2)), (12, .val (x12_m2)), (13, .val (x13_m2))], [(1007, .arr 50 (y1007_m2))]⟩) ⟨rfl, rfl, rfl, rfl, rfl, rfl, rfl, trivial⟩ ⟨rfl, trivial⟩ ?_
    refine PT.seq ?_
    refine PT.region ?_
    refine Ops.put rfl rfl (ox_lss .tmp .tmp) ((.app (.one rfl) (.one rfl))) (.nil) rfl ?_
    refine Ops.nil ?_
    refine PT.sub (σ' := ⟨[(1, .val (x1_m2)), (2, .val (x2_m2)), (7, _), (8, .val (x8_m2)), (11, .val (x11_m2)), (12, .val (x12_m2)), (13, .val (x13_m2)), (14, .val ((decide (x13_m2 < x12_m2))))], [(1007, .arr 50 (y1007_m2))]⟩) ⟨rfl, rfl, rfl, rfl, rfl, rfl, rfl, rfl, trivial⟩ ⟨rfl, trivial⟩ ?_
    refine PT.seq ?_
    refine PT.cond _ rfl (fun hc3 => ?_) (fun hc3 => ?_)
    · replace hφ := if_then hφ hc3
      refine PT.sub (σ' := ⟨[(1, .val (x1_m2)), (2, .val (x2_m2)), (7, _), (8, .val (x8_m2)), (11, .val (x11_m2)), (12, .val (x12_m2)), (13, .val (x13_m2))], [(1007, .arr 50 (y1007_m2))]⟩) ⟨rfl, rfl, rfl, rfl, rfl, rfl, rfl, trivial⟩ ⟨rfl, trivial⟩ ?_
      refine PT.skip ?_
      refine PT.seq ?_
      refine PT.block ?_
      refine PT.seq ?_
      obtain ⟨hb4, hφ⟩ := G_some hφ
      refine PT.region ?_
      refine Ops.put rfl rfl (ox_ix s44 .tmp .tmp hb4.1 hb4.2) ((.app (.one rfl) (.one rfl))) (.nil) rfl ?_
      refine Ops.put rfl rfl (ox_load_elem t50) (.one rfl) (.nil) rfl ?_
      refine Ops.putO rfl rfl (ox_alloc (id := 10) z50) (.nil) (.nil) rfl (by kernel_rfl) ?_
      refine Ops.mute rfl rfl (ox_store_var t50 .tmp) ((.cons rfl (.one rfl))) (.one rfl) ?_
      refine Ops.nil ?_
      refine PT.sub (σ' := ⟨[(1, .val (x1_m2)), (2, .val (x2_m2)), (7, _), (8, .val (x8_m2)), (10, _), (11, .val (x11_m2)), (12, .val (x12_m2)), (13, .val (x13_m2))], [(10, .var ((ix x11_m2 x13_m2)) []), (1007, .arr 50 (y1007_m2))]⟩) ⟨rfl, rfl, rfl, rfl, rfl, rfl, rfl, rfl, trivial⟩ ⟨rfl, rfl, trivial⟩ ?_
      obtain ⟨k5, hk5, hφ⟩ := J_some hφ
      refine PT.cut (ι := Int × Int × Bool × (List Mk.Write) × Int × Int × Mk.Write × (List Mk.Write)) (fun p => ⟨[(1, .val (p.1)), (2, .val (p.2.1)), (7, .sl 1007), (8, .val (p.2.2.1)), (10, .ptr 10 (Lens.id (α := Mk.Write))), (11, .val (p.2.2.2.1)), (12, .val (p.2.2.2.2.1)), (13, .val (p.2.2.2.2.2.1))], [(10, .var (p.2.2.2.2.2.2.1) []), (1007, .arr 50 (p.2.2.2.2.2.2.2))]⟩) (fun p => k5 (p.1) (p.2.1) (p.2.2.1) (p.2.2.2.1) (p.2.2.2.2.1) (p.2.2.2.2.2.1) (p.2.2.2.2.2.2.1) (p.2.2.2.2.2.2.2) = some r) ?_ ?_
      · skip
        refine PT.seq ?_
        refine PT.region ?_
        refine Ops.put rfl rfl (ox_fieldAddr_var Write_At f50_0) (.one rfl) (.nil) rfl ?_
        refine Ops.put rfl rfl (ox_load_fld t3) (.one rfl) (.one rfl) rfl ?_
        refine Ops.put rfl rfl (ox_move .tmp) (.one rfl) (.nil) rfl ?_
        refine Ops.put rfl rfl (ox_eql .tmp .tmp) ((.app (.one rfl) (.one rfl))) (.nil) rfl ?_
        refine Ops.nil ?_
        refine PT.sub (σ' := ⟨[(1, .val (x1_m2)), (2, .val (x2_m2)), (7, _), (8, .val (x8_m2)), (10, _), (11, .val (x11_m2)), (12, .val (x12_m2)), (13, .val (x13_m2)), (20, .val ((decide ((ix x11_m2 x13_m2).At = x1_m2))))], [(10, .var ((ix x11_m2 x13_m2)) []), (1007, .arr 50 (y1007_m2))]⟩) ⟨rfl, rfl, rfl, rfl, rfl, rfl, rfl, rfl, rfl, trivial⟩ ⟨rfl, rfl, trivial⟩ ?_
        refine PT.cond _ rfl (fun hc6 => ?_) (fun hc6 => ?_)
        · replace hφ := if_then hφ hc6
          refine PT.sub (σ' := ⟨[(1, .val (x1_m2)), (2, .val (x2_m2)), (7, _), (10, _), (11, .val (x11_m2)), (12, .val (x12_m2)), (13, .val (x13_m2))], [(10, .var ((ix x11_m2 x13_m2)) []), (1007, .arr 50 (y1007_m2))]⟩) ⟨rfl, rfl, rfl, rfl, rfl, rfl, rfl, trivial⟩ ⟨rfl, rfl, trivial⟩ ?_
          refine PT.seq ?_
          refine PT.region ?_
          refine Ops.put rfl rfl (ox_move .tmp) (.one rfl) (.nil) rfl ?_
          refine Ops.put rfl rfl (ox_fieldAddr_var Write_N f50_1) (.one rfl) (.nil) rfl ?_
          refine Ops.mute rfl rfl (ox_store_fld t3 .tmp) ((.cons rfl (.one rfl))) (.one rfl) ?_
          refine Ops.nil ?_
          refine PT.sub (σ' := ⟨[(1, .val (x1_m2)), (2, .val (x2_m2)), (7, _), (10, _), (11, .val (x11_m2)), (12, .val (x12_m2)), (13, .val (x13_m2))], [(10, .var ({ (ix x11_m2 x13_m2) with N := x2_m2 }) []), (1007, .arr 50 (y1007_m2))]⟩) ⟨rfl, rfl, rfl, rfl, rfl, rfl, rfl, trivial⟩ ⟨rfl, rfl, trivial⟩ ?_
          refine PT.region ?_
          refine Ops.put rfl rfl (ox_assign .bool) (.nil) (.nil) rfl ?_
          refine Ops.nil ?_
          refine PT.sub (σ' := ⟨[(1, .val (x1_m2)), (2, .val (x2_m2)), (7, _), (8, .val (true)), (10, _), (11, .val (x11_m2)), (12, .val (x12_m2)), (13, .val (x13_m2))], [(10, .var ({ (ix x11_m2 x13_m2) with N := x2_m2 }) []), (1007, .arr 50 (y1007_m2))]⟩) ⟨rfl, rfl, rfl, rfl, rfl, rfl, rfl, rfl, trivial⟩ ⟨rfl, rfl, trivial⟩ ?_
          exact PT.meet (x1_m2, x2_m2, true, x11_m2, x12_m2, x13_m2, { (ix x11_m2 x13_m2) with N := x2_m2 }, y1007_m2) hφ ⟨rfl, rfl, rfl, rfl, rfl, rfl, rfl, rfl, trivial⟩ ⟨rfl, rfl, trivial⟩
        · replace hφ := if_else hφ hc6
          refine PT.sub (σ' := ⟨[(1, .val (x1_m2)), (2, .val (x2_m2)), (7, _), (8, .val (x8_m2)), (10, _), (11, .val (x11_m2)), (12, .val (x12_m2)), (13, .val (x13_m2))], [(10, .var ((ix x11_m2 x13_m2)) []), (1007, .arr 50 (y1007_m2))]⟩) ⟨rfl, rfl, rfl, rfl, rfl, rfl, rfl, rfl, trivial⟩ ⟨rfl, rfl, trivial⟩ ?_
          refine PT.skip ?_
          exact PT.meet (x1_m2, x2_m2, x8_m2, x11_m2, x12_m2, x13_m2, (ix x11_m2 x13_m2), y1007_m2) hφ ⟨rfl, rfl, rfl, rfl, rfl, rfl, rfl, rfl, trivial⟩ ⟨rfl, rfl, trivial⟩
      · rintro ⟨x1_k5, x2_k5, x8_k5, x11_k5, x12_k5, x13_k5, y10_k5, y1007_k5⟩ hφ
        subst hk5
        refine PT.sub (σ' := ⟨[(1, .val (x1_k5)), (2, .val (x2_k5)), (7, .sl 1007), (8, .val (x8_k5)), (10, .ptr 10 (Lens.id (α := Mk.Write))), (11, .val (x11_k5)), (12, .val (x12_k5)), (13, .val (x13_k5))], [(10, .var (y10_k5) []), (1007, .arr 50 (y1007_k5))]⟩) ⟨rfl, rfl, rfl, rfl, rfl, rfl, rfl, rfl, trivial⟩ ⟨rfl, rfl, trivial⟩ ?_
        obtain ⟨hb7, hφ⟩ := G_some hφ
        refine PT.region ?_
        refine Ops.put rfl rfl (ox_move .tmp) (.one rfl) (.nil) rfl ?_
        refine Ops.put rfl rfl (ox_load_var t50) (.one rfl) (.one rfl) rfl ?_
        refine Ops.put rfl rfl (ox_buildSlice_val s44 z50 (.cons .tmp Parts.nil) rfl (by decide)) ((.app (.one rfl) .nil)) (.nil) rfl ?_
        refine Ops.putK [7, 23] rfl rfl (ox_append a44 .tmp .tmp hb7.1 hb7.2) ((.app (.one rfl) (.one rfl))) (.one rfl) rfl (by kernel_rfl) ?_
        refine Ops.put rfl rfl (ox_assign .tmp) (.one rfl) (.nil) rfl ?_
        refine Ops.nil ?_
        refine PT.sub (σ' := ⟨[(1, .val (x1_k5)), (2, .val (x2_k5)), (7, _), (8, .val (x8_k5)), (11, .val (x11_k5)), (12, .val (x12_k5)), (13, .val (x13_k5))], [(1007, .arr 50 ((y1007_k5 ++ ([y10_k5] : List Mk.Write))))]⟩) ⟨rfl, rfl, rfl, rfl, rfl, rfl, rfl, trivial⟩ ⟨rfl, trivial⟩ ?_
        obtain ⟨hb8, hφ⟩ := G_some hφ
        refine PT.region ?_
        refine Ops.put rfl rfl (ox_add .tmp .int hb8) ((.app (.one rfl) (.nil))) (.nil) rfl ?_
        refine Ops.put rfl rfl (ox_move .tmp) (.one rfl) (.nil) rfl ?_
        refine Ops.nil ?_
        refine PT.sub (σ' := ⟨[(1, .val (x1_k5)), (2, .val (x2_k5)), (7, _), (8, .val (x8_k5)), (11, .val (x11_k5)), (12, .val (x12_k5)), (13, .val ((x13_k5 + (1 : Int))))], [(1007, .arr 50 ((y1007_k5 ++ ([y10_k5] : List Mk.Write))))]⟩) ⟨rfl, rfl, rfl, rfl, rfl, rfl, rfl, trivial⟩ ⟨rfl, trivial⟩ ?_
        exact PT.next (m2, x1_k5, x2_k5, x8_k5, x11_k5, x12_k5, (x13_k5 + (1 : Int)), (y1007_k5 ++ ([y10_k5] : List Mk.Write))) hφ (Nat.lt_succ_self _) ⟨rfl, rfl, rfl, rfl, rfl, rfl, rfl, trivial⟩ ⟨rfl, trivial⟩
    · replace hφ := if_else hφ hc3
      refine PT.sub (σ' := ⟨[(1, .val (x1_m2)), (2, .val (x2_m2)), (7, _), (8, .val (x8_m2))], [(1007, .arr 50 (y1007_m2))]⟩) ⟨rfl, rfl, rfl, rfl, trivial⟩ ⟨rfl, trivial⟩ ?_
      refine PT.exit ?_
      exact PT.meet (x1_m2, x2_m2, x8_m2, y1007_m2) hφ ⟨rfl, rfl, rfl, rfl, trivial⟩ ⟨rfl, trivial⟩
  · rintro ⟨x1_k1, x2_k1, x8_k1, y1007_k1⟩ hφ
    subst hk1
    refine PT.sub (σ' := ⟨[(1, .val (x1_k1)), (2, .val (x2_k1)), (7, .sl 1007), (8, .val (x8_k1))], [(1007, .arr 50 (y1007_k1))]⟩) ⟨rfl, rfl, rfl, rfl, trivial⟩ ⟨rfl, trivial⟩ ?_
    obtain ⟨k9, hk9, hφ⟩ := J_some hφ
    refine PT.cut (ι := (List Mk.Write)) (fun p => ⟨[(7, .sl 1007)], [(1007, .arr 50 (p))]⟩) (fun p => k9 (p) = some r) ?_ ?_
    · skip
      refine PT.seq ?_
      refine PT.region ?_
      refine Ops.put rfl rfl (ox_move .tmp) (.one rfl) (.nil) rfl ?_
      refine Ops.put rfl rfl (ox_not .tmp) (.one rfl) (.nil) rfl ?_
      refine Ops.nil ?_
      refine PT.sub (σ' := ⟨[(1, .val (x1_k1)), (2, .val (x2_k1)), (7, _), (29, .val ((!x8_k1)))], [(1007, .arr 50 (y1007_k1))]⟩) ⟨rfl, rfl, rfl, rfl, trivial⟩ ⟨rfl, trivial⟩ ?_
      refine PT.cond _ rfl (fun hc10 => ?_) (fun hc10 => ?_)
      · replace hφ := if_then hφ hc10
        refine PT.sub (σ' := ⟨[(1, .val (x1_k1)), (2, .val (x2_k1)), (7, _)], [(1007, .arr 50 (y1007_k1))]⟩) ⟨rfl, rfl, rfl, trivial⟩ ⟨rfl, trivial⟩ ?_
        obtain ⟨hb11, hφ⟩ := G_some hφ
        refine PT.region ?_
        refine Ops.put rfl rfl (ox_move .tmp) (.one rfl) (.nil) rfl ?_
        refine Ops.put rfl rfl (ox_move .tmp) (.one rfl) (.nil) rfl ?_
        refine Ops.put rfl rfl (ox_move .tmp) (.one rfl) (.nil) rfl ?_
        refine Ops.put rfl rfl (ox_buildB z50 u50 rfl (.cons Write_At f50_0 .tmp (.cons Write_N f50_1 .tmp Bld.nil))) ((.app (.one rfl) (.app (.one rfl) .nil))) (.nil) rfl ?_
        refine Ops.put rfl rfl (ox_buildSlice_val s44 z50 (.cons .tmp Parts.nil) rfl (by decide)) ((.app (.one rfl) .nil)) (.nil) rfl ?_
        refine Ops.putK [7, 30] rfl rfl (ox_append a44 .tmp .tmp hb11.1 hb11.2) ((.app (.one rfl) (.one rfl))) (.one rfl) rfl (by kernel_rfl) ?_
        refine Ops.put rfl rfl (ox_assign .tmp) (.one rfl) (.nil) rfl ?_
        refine Ops.nil ?_
        refine PT.sub (σ' := ⟨[(7, _)], [(1007, .arr 50 ((y1007_k1 ++ ([({ At := x1_k1, N := x2_k1 } : Mk.Write)] : List Mk.Write))))]⟩) ⟨rfl, trivial⟩ ⟨rfl, trivial⟩ ?_
        exact PT.meet ((y1007_k1 ++ ([({ At := x1_k1, N := x2_k1 } : Mk.Write)] : List Mk.Write))) hφ ⟨rfl, trivial⟩ ⟨rfl, trivial⟩
      · replace hφ := if_else hφ hc10
        refine PT.sub (σ' := ⟨[(7, _)], [(1007, .arr 50 (y1007_k1))]⟩) ⟨rfl, trivial⟩ ⟨rfl, trivial⟩ ?_
        refine PT.skip ?_
        exact PT.meet (y1007_k1) hφ ⟨rfl, trivial⟩ ⟨rfl, trivial⟩
    · rintro y1007_k9 hφ
      subst hk9
      refine PT.sub (σ' := ⟨[(7, .sl 1007)], [(1007, .arr 50 (y1007_k9))]⟩) ⟨rfl, trivial⟩ ⟨rfl, trivial⟩ ?_
      refine PT.seq ?_
      refine PT.region ?_
      refine Ops.put rfl rfl (ox_move .tmp) (.one rfl) (.nil) rfl ?_
      refine Ops.put rfl rfl (ox_assign .tmp) (.one rfl) (.nil) rfl ?_
      refine Ops.nil ?_
      refine PT.sub (σ' := ⟨[(6, _)], [(1007, .arr 50 (y1007_k9))]⟩) ⟨rfl, trivial⟩ ⟨rfl, trivial⟩ ?_
      refine PT.ret ?_
      refine PT.freeze 1007 [6] rfl ⟨rfl, trivial⟩ ?_
      obtain rfl := Option.some.inj hφ
      exact PT.done hw0 rfl (.tmp rfl rfl .nil) rfl
theorem c_mkref1_Do {a0 : List Mk.Write} {a1 : Mk.Call} {r : ((List Mk.Write) × Mk.Reply)} (hφ : mkref1_Do a0 a1 = some r) : Fn Go.Proofs.Try.prog 80 [.val a0, .val a1] (.tup [.val r.1, .val r.2]) := by
  unfold mkref1_Do at hφ
  refine Fn.mk' Go.Proofs.Try.func80 rfl (by decide) rfl rfl rfl (fun w0 hw0 => ?_)
  refine PT.seq ?_
  refine PT.region ?_
  refine Ops.putO rfl rfl (ox_box (id := 2) .tmp) (.one rfl) (.nil) rfl (by kernel_rfl) ?_
  refine Ops.putO rfl rfl (ox_box (id := 3) .tmp) (.one rfl) (.nil) rfl (by kernel_rfl) ?_
  refine Ops.put rfl rfl (ox_assign .nilS) (.nil) (.nil) rfl ?_
  refine Ops.putO rfl rfl (ox_alloc (id := 5) z28) (.nil) (.nil) rfl (by kernel_rfl) ?_
  refine Ops.nil ?_
  refine PT.sub (σ' := ⟨[(2, _), (3, _), (5, _)], [(2, .var (a0) []), (3, .var (a1) []), (5, .var (({ Err := (0 : Int), N := (0 : Int) } : Mk.Reply)) [])]⟩) ⟨rfl, rfl, rfl, trivial⟩ ⟨rfl, rfl, rfl, trivial⟩ ?_
  refine PT.seq ?_
  obtain ⟨v1, hv1, hφ⟩ := B_some hφ
  refine PT.region ?_
  refine Ops.put rfl rfl (ox_load_var t44) (.one rfl) (.one rfl) rfl ?_
  refine Ops.put rfl rfl (ox_fieldAddr_var Call_Name f23_1) (.one rfl) (.nil) rfl ?_
  refine Ops.put rfl rfl (ox_load_fld t3) (.one rfl) (.one rfl) rfl ?_
  refine Ops.put rfl rfl (ox_call (c_mkref1_get hv1) (.cons .tmp (.cons .tmp .nil))) ((.app (.one rfl) (.app (.one rfl) .nil))) (.nil) rfl ?_
  refine Ops.put rfl rfl (ox_move .tmp) (.one rfl) (.nil) rfl ?_
  refine Ops.put rfl rfl (ox_extract rfl) (.one rfl) (.nil) rfl ?_
  refine Ops.put rfl rfl (ox_extract rfl) (.one rfl) (.nil) rfl ?_
  refine Ops.put rfl rfl (ox_assign .tmp) (.one rfl) (.nil) rfl ?_
  refine Ops.put rfl rfl (ox_assign .tmp) (.one rfl) (.nil) rfl ?_
  refine Ops.nil ?_
  refine PT.sub (σ' := ⟨[(2, _), (3, _), (5, _), (6, .val (v1.1)), (7, .val (v1.2))], [(2, .var (a0) []), (3, .var (a1) []), (5, .var (({ Err := (0 : Int), N := (0 : Int) } : Mk.Reply)) [])]⟩) ⟨rfl, rfl, rfl, rfl, rfl, trivial⟩ ⟨rfl, rfl, rfl, trivial⟩ ?_
  refine PT.seq ?_
  refine PT.freezeVar 2 [2] rfl ⟨rfl, trivial⟩ ?_
  refine PT.region ?_
  refine Ops.put rfl rfl (ox_makeFunc (.cons .tmp .nil)) ((.app (.one rfl) .nil)) (.nil) rfl ?_
  refine Ops.put rfl rfl (ox_assign .tmp) (.one rfl) (.nil) rfl ?_
  refine Ops.nil ?_
  refine PT.sub (σ' := ⟨[(2, .elem (a0)), (3, _), (5, _), (6, .val (v1.1)), (7, .val (v1.2)), (8, _)], [(3, .var (a1) []), (5, .var (({ Err := (0 : Int), N := (0 : Int) } : Mk.Reply)) [])]⟩) ⟨rfl, rfl, rfl, rfl, rfl, rfl, trivial⟩ ⟨rfl, rfl, trivial⟩ ?_
  refine PT.seq ?_
  refine PT.block ?_
  refine PT.seq ?_
  refine PT.region ?_
  refine Ops.put rfl rfl (ox_fieldAddr_var Call_Kind f23_0) (.one rfl) (.nil) rfl ?_
  refine Ops.put rfl rfl (ox_load_fld t3) (.one rfl) (.one rfl) rfl ?_
  refine Ops.put rfl rfl (ox_eql .tmp .int) ((.app (.one rfl) (.nil))) (.nil) rfl ?_
  refine Ops.put rfl rfl (ox_assign .tmp) (.one rfl) (.nil) rfl ?_
  refine Ops.nil ?_
  refine PT.sub (σ' := ⟨[(2, .elem (a0)), (3, _), (5, _), (6, .val (v1.1)), (7, .val (v1.2)), (8, _), (21, .val ((decide (a1.Kind = (5 : Int)))))], [(3, .var (a1) []), (5, .var (({ Err := (0 : Int), N := (0 : Int) } : Mk.Reply)) [])]⟩) ⟨rfl, rfl, rfl, rfl, rfl, rfl, rfl, trivial⟩ ⟨rfl, rfl, trivial⟩ ?_
  refine PT.cond _ rfl (fun hc2 => ?_) (fun hc2 => ?_)
  · replace hφ := if_then hφ hc2
    refine PT.sub (σ' := ⟨[(2, .elem (a0)), (5, _)], [(5, .var (({ Err := (0 : Int), N := (0 : Int) } : Mk.Reply)) [])]⟩) ⟨rfl, rfl, trivial⟩ ⟨rfl, trivial⟩ ?_
    refine PT.seq ?_
    refine PT.draw hMixed (
        Segs.cons (Step.put rfl rfl (ox_load_elem t44)) ⟨.one rfl, .nil⟩ (by kernel_rfl) rfl <|
        Segs.cons (Step.put rfl rfl (ox_load_elem t44)) ⟨.one rfl, .nil⟩ (by kernel_rfl) rfl <|
        Segs.cons (Step.put rfl rfl (ox_len s44 .tmp)) ⟨.one rfl, .nil⟩ (by kernel_rfl) rfl <|
        Segs.cons (Step.put rfl rfl (ox_buildB z28 u28 rfl (.cons Reply_N f28_1 .tmp Bld.nil))) ⟨(.app (.one rfl) .nil), .nil⟩ (by kernel_rfl) rfl <|
        Segs.cons (Step.put rfl rfl (ox_assign .tmp)) ⟨.one rfl, .nil⟩ (by kernel_rfl) rfl <|
        Segs.cons (Step.mute rfl rfl (ox_store_var t28 .tmp)) ⟨(.cons rfl (.one rfl)), .one rfl⟩ (by kernel_rfl) rfl <|
        Segs.nil) _ [[], [], [1], [1, 2], [0], [0, 1, 2, 3, 4]] rfl (by kernel_rfl) (by kernel_rfl) ?_
    refine PT.sub (σ' := ⟨[(4, .val (a0)), (5, _)], [(5, .var (({ Err := (0 : Int), N := (a0.length : Int) } : Mk.Reply)) [])]⟩) ⟨rfl, rfl, trivial⟩ ⟨rfl, trivial⟩ ?_
    refine PT.ret ?_
    obtain rfl := Option.some.inj hφ
    exact PT.done hw0 rfl (.tmp rfl rfl (.cell t28 rfl rfl .nil)) rfl
  · replace hφ := if_else hφ hc2
    refine PT.sub (σ' := ⟨[(2, .elem (a0)), (3, _), (5, _), (6, .val (v1.1)), (7, .val (v1.2)), (8, _)], [(3, .var (a1) []), (5, .var (({ Err := (0 : Int), N := (0 : Int) } : Mk.Reply)) [])]⟩) ⟨rfl, rfl, rfl, rfl, rfl, rfl, trivial⟩ ⟨rfl, rfl, trivial⟩ ?_
    refine PT.seq ?_
    refine PT.region ?_
    refine Ops.put rfl rfl (ox_fieldAddr_var Call_Kind f23_0) (.one rfl) (.nil) rfl ?_
    refine Ops.put rfl rfl (ox_load_fld t3) (.one rfl) (.one rfl) rfl ?_
    refine Ops.put rfl rfl (ox_eql .tmp .int) ((.app (.one rfl) (.nil))) (.nil) rfl ?_
    refine Ops.put rfl rfl (ox_move .tmp) (.one rfl) (.nil) rfl ?_
    refine Ops.guard rfl rfl rfl rfl (.plain .nil) (fun hG => (ox_move .tmp)) ⟨rfl, trivial⟩ (.nil) rfl ?_
    refine Ops.guard rfl rfl rfl rfl (.cond (fun h => h) .nil) (fun hG => (ox_not .tmp)) ⟨rfl, trivial⟩ (.nil) rfl ?_
    refine Ops.put rfl rfl ox_pick_and (⟨rfl, rfl, trivial⟩) (.nil) rfl ?_
    refine Ops.put rfl rfl (ox_move .tmp) (.one rfl) (.nil) rfl ?_
    refine Ops.guard rfl rfl rfl rfl (.plain .nil) (fun hG => (ox_load_elem t44)) ⟨rfl, trivial⟩ (.nil) rfl ?_
    refine Ops.guard rfl rfl rfl rfl (.cond (fun h => h) .nil) (fun hG => (ox_len s44 .tmp)) ⟨rfl, trivial⟩ (.nil) rfl ?_
    refine Ops.guard rfl rfl rfl rfl (.cond (fun h => h) .nil) (fun hG => (ox_geq .tmp .int)) ⟨rfl, trivial⟩ (.nil) rfl ?_
    refine Ops.put rfl rfl ox_pick_and (⟨rfl, rfl, trivial⟩) (.nil) rfl ?_
    refine Ops.put rfl rfl (ox_assign .tmp) (.one rfl) (.nil) rfl ?_
    refine Ops.nil ?_
    refine PT.sub (σ' := ⟨[(2, .elem (a0)), (3, _), (5, _), (6, .val (v1.1)), (7, .val (v1.2)), (8, _), (29, .val ((((decide (a1.Kind = (1 : Int))) && (!v1.2)) && (decide ((5 : Int) ≤ (a0.length : Int))))))], [(3, .var (a1) []), (5, .var (({ Err := (0 : Int), N := (0 : Int) } : Mk.Reply)) [])]⟩) ⟨rfl, rfl, rfl, rfl, rfl, rfl, rfl, trivial⟩ ⟨rfl, rfl, trivial⟩ ?_
    refine PT.cond _ rfl (fun hc3 => ?_) (fun hc3 => ?_)
    · replace hφ := if_then hφ hc3
      refine PT.sub (σ' := ⟨[(5, _), (8, _)], [(5, .var (({ Err := (0 : Int), N := (0 : Int) } : Mk.Reply)) [])]⟩) ⟨rfl, rfl, trivial⟩ ⟨rfl, trivial⟩ ?_
      refine PT.seq ?_
      obtain ⟨v4, hv4, hφ⟩ := B_some hφ
      refine PT.region ?_
      refine Ops.put rfl rfl (ox_move .tmp) (.one rfl) (.nil) rfl ?_
      refine Ops.put rfl rfl (ox_callv (c_mkref1_Do_1 hv4) (.cons .int .nil)) ((.cons rfl ((.app (.nil) .nil)))) (.nil) rfl ?_
      refine Ops.put rfl rfl (ox_extract rfl) (.one rfl) (.nil) rfl ?_
      refine Ops.put rfl rfl (ox_extract rfl) (.one rfl) (.nil) rfl ?_
      refine Ops.put rfl rfl (ox_assign .tmp) (.one rfl) (.nil) rfl ?_
      refine Ops.mute rfl rfl (ox_store_var t28 .tmp) ((.cons rfl (.one rfl))) (.one rfl) ?_
      refine Ops.nil ?_
      refine PT.sub (σ' := ⟨[(4, .val (v4.1)), (5, _)], [(5, .var (v4.2) [])]⟩) ⟨rfl, rfl, trivial⟩ ⟨rfl, trivial⟩ ?_
      refine PT.ret ?_
      obtain rfl := Option.some.inj hφ
      exact PT.done hw0 rfl (.tmp rfl rfl (.cell t28 rfl rfl .nil)) rfl
    · replace hφ := if_else hφ hc3
      refine PT.sub (σ' := ⟨[(2, .elem (a0)), (3, _), (5, _), (6, .val (v1.1)), (7, .val (v1.2)), (8, _)], [(3, .var (a1) []), (5, .var (({ Err := (0 : Int), N := (0 : Int) } : Mk.Reply)) [])]⟩) ⟨rfl, rfl, rfl, rfl, rfl, rfl, trivial⟩ ⟨rfl, rfl, trivial⟩ ?_
      refine PT.seq ?_
      refine PT.region ?_
      refine Ops.put rfl rfl (ox_fieldAddr_var Call_Kind f23_0) (.one rfl) (.nil) rfl ?_
      refine Ops.put rfl rfl (ox_load_fld t3) (.one rfl) (.one rfl) rfl ?_
      refine Ops.put rfl rfl (ox_eql .tmp .int) ((.app (.one rfl) (.nil))) (.nil) rfl ?_
      refine Ops.put rfl rfl (ox_assign .tmp) (.one rfl) (.nil) rfl ?_
      refine Ops.nil ?_
      refine PT.sub (σ' := ⟨[(2, .elem (a0)), (3, _), (5, _), (6, .val (v1.1)), (7, .val (v1.2)), (8, _), (46, .val ((decide (a1.Kind = (1 : Int)))))], [(3, .var (a1) []), (5, .var (({ Err := (0 : Int), N := (0 : Int) } : Mk.Reply)) [])]⟩) ⟨rfl, rfl, rfl, rfl, rfl, rfl, rfl, trivial⟩ ⟨rfl, rfl, trivial⟩ ?_
      refine PT.cond _ rfl (fun hc5 => ?_) (fun hc5 => ?_)
      · replace hφ := if_then hφ hc5
        refine PT.sub (σ' := ⟨[(2, .elem (a0)), (3, _), (5, _), (6, .val (v1.1))], [(3, .var (a1) []), (5, .var (({ Err := (0 : Int), N := (0 : Int) } : Mk.Reply)) [])]⟩) ⟨rfl, rfl, rfl, rfl, trivial⟩ ⟨rfl, rfl, trivial⟩ ?_
        refine PT.seq ?_
        obtain ⟨v6, hv6, hφ⟩ := B_some hφ
        refine PT.region ?_
        refine Ops.put rfl rfl (ox_load_elem t44) (.one rfl) (.nil) rfl ?_
        refine Ops.put rfl rfl (ox_fieldAddr_var Call_Name f23_1) (.one rfl) (.nil) rfl ?_
        refine Ops.put rfl rfl (ox_load_fld t3) (.one rfl) (.one rfl) rfl ?_
        refine Ops.put rfl rfl (ox_fieldAddr_var Call_N f23_3) (.one rfl) (.nil) rfl ?_
        refine Ops.put rfl rfl (ox_load_fld t3) (.one rfl) (.one rfl) rfl ?_
        refine Ops.put rfl rfl (ox_call (c_mkref1_set hv6) (.cons .tmp (.cons .tmp (.cons .tmp .nil)))) ((.app (.one rfl) (.app (.one rfl) (.app (.one rfl) .nil)))) (.nil) rfl ?_
        refine Ops.put rfl rfl (ox_move .tmp) (.one rfl) (.nil) rfl ?_
        refine Ops.put rfl rfl (ox_buildB z28 u28 rfl (.cons Reply_N f28_1 .tmp Bld.nil)) ((.app (.one rfl) .nil)) (.nil) rfl ?_
        refine Ops.put rfl rfl (ox_assign .tmp) (.one rfl) (.nil) rfl ?_
        refine Ops.mute rfl rfl (ox_store_var t28 .tmp) ((.cons rfl (.one rfl))) (.one rfl) ?_
        refine Ops.nil ?_
        refine PT.sub (σ' := ⟨[(4, .val (v6)), (5, _)], [(5, .var (({ Err := (0 : Int), N := v1.1 } : Mk.Reply)) [])]⟩) ⟨rfl, rfl, trivial⟩ ⟨rfl, trivial⟩ ?_
        refine PT.ret ?_
        obtain rfl := Option.some.inj hφ
        exact PT.done hw0 rfl (.tmp rfl rfl (.cell t28 rfl rfl .nil)) rfl
      · replace hφ := if_else hφ hc5
        refine PT.sub (σ' := ⟨[(2, .elem (a0)), (3, _), (5, _), (6, .val (v1.1)), (7, .val (v1.2)), (8, _)], [(3, .var (a1) []), (5, .var (({ Err := (0 : Int), N := (0 : Int) } : Mk.Reply)) [])]⟩) ⟨rfl, rfl, rfl, rfl, rfl, rfl, trivial⟩ ⟨rfl, rfl, trivial⟩ ?_
        refine PT.seq ?_
        refine PT.region ?_
        refine Ops.put rfl rfl (ox_move .tmp) (.one rfl) (.nil) rfl ?_
        refine Ops.put rfl rfl (ox_not .tmp) (.one rfl) (.nil) rfl ?_
        refine Ops.put rfl rfl (ox_assign .tmp) (.one rfl) (.nil) rfl ?_
        refine Ops.nil ?_
        refine PT.sub (σ' := ⟨[(2, .elem (a0)), (3, _), (5, _), (6, .val (v1.1)), (8, _), (58, .val ((!v1.2)))], [(3, .var (a1) []), (5, .var (({ Err := (0 : Int), N := (0 : Int) } : Mk.Reply)) [])]⟩) ⟨rfl, rfl, rfl, rfl, rfl, rfl, trivial⟩ ⟨rfl, rfl, trivial⟩ ?_
        refine PT.cond _ rfl (fun hc7 => ?_) (fun hc7 => ?_)
        · replace hφ := if_then hφ hc7
          refine PT.sub (σ' := ⟨[(5, _), (8, _)], [(5, .var (({ Err := (0 : Int), N := (0 : Int) } : Mk.Reply)) [])]⟩) ⟨rfl, rfl, trivial⟩ ⟨rfl, trivial⟩ ?_
          refine PT.seq ?_
          obtain ⟨v8, hv8, hφ⟩ := B_some hφ
          refine PT.region ?_
          refine Ops.put rfl rfl (ox_move .tmp) (.one rfl) (.nil) rfl ?_
          refine Ops.put rfl rfl (ox_callv (c_mkref1_Do_1 hv8) (.cons .int .nil)) ((.cons rfl ((.app (.nil) .nil)))) (.nil) rfl ?_
          refine Ops.put rfl rfl (ox_extract rfl) (.one rfl) (.nil) rfl ?_
          refine Ops.put rfl rfl (ox_extract rfl) (.one rfl) (.nil) rfl ?_
          refine Ops.put rfl rfl (ox_assign .tmp) (.one rfl) (.nil) rfl ?_
          refine Ops.mute rfl rfl (ox_store_var t28 .tmp) ((.cons rfl (.one rfl))) (.one rfl) ?_
          refine Ops.nil ?_
          refine PT.sub (σ' := ⟨[(4, .val (v8.1)), (5, _)], [(5, .var (v8.2) [])]⟩) ⟨rfl, rfl, trivial⟩ ⟨rfl, trivial⟩ ?_
          refine PT.ret ?_
          obtain rfl := Option.some.inj hφ
          exact PT.done hw0 rfl (.tmp rfl rfl (.cell t28 rfl rfl .nil)) rfl
        · replace hφ := if_else hφ hc7
          refine PT.sub (σ' := ⟨[(2, .elem (a0)), (3, _), (5, _), (6, .val (v1.1)), (8, _)], [(3, .var (a1) []), (5, .var (({ Err := (0 : Int), N := (0 : Int) } : Mk.Reply)) [])]⟩) ⟨rfl, rfl, rfl, rfl, rfl, trivial⟩ ⟨rfl, rfl, trivial⟩ ?_
          refine PT.seq ?_
          refine PT.region ?_
          refine Ops.put rfl rfl (ox_fieldAddr_var Call_Kind f23_0) (.one rfl) (.nil) rfl ?_
          refine Ops.put rfl rfl (ox_load_fld t3) (.one rfl) (.one rfl) rfl ?_
          refine Ops.put rfl rfl (ox_eql .tmp .int) ((.app (.one rfl) (.nil))) (.nil) rfl ?_
          refine Ops.put rfl rfl (ox_assign .tmp) (.one rfl) (.nil) rfl ?_
          refine Ops.nil ?_
          refine PT.sub (σ' := ⟨[(2, .elem (a0)), (3, _), (5, _), (6, .val (v1.1)), (8, _), (65, .val ((decide (a1.Kind = (2 : Int)))))], [(3, .var (a1) []), (5, .var (({ Err := (0 : Int), N := (0 : Int) } : Mk.Reply)) [])]⟩) ⟨rfl, rfl, rfl, rfl, rfl, rfl, trivial⟩ ⟨rfl, rfl, trivial⟩ ?_
          refine PT.cond _ rfl (fun hc9 => ?_) (fun hc9 => ?_)
          · replace hφ := if_then hφ hc9
            refine PT.sub (σ' := ⟨[(2, .elem (a0)), (5, _), (6, .val (v1.1))], [(5, .var (({ Err := (0 : Int), N := (0 : Int) } : Mk.Reply)) [])]⟩) ⟨rfl, rfl, rfl, trivial⟩ ⟨rfl, trivial⟩ ?_
            refine PT.seq ?_
            refine PT.region ?_
            refine Ops.put rfl rfl (ox_load_elem t44) (.one rfl) (.nil) rfl ?_
            refine Ops.put rfl rfl (ox_move .tmp) (.one rfl) (.nil) rfl ?_
            refine Ops.put rfl rfl (ox_buildB z28 u28 rfl (.cons Reply_N f28_1 .tmp Bld.nil)) ((.app (.one rfl) .nil)) (.nil) rfl ?_
            refine Ops.put rfl rfl (ox_assign .tmp) (.one rfl) (.nil) rfl ?_
            refine Ops.mute rfl rfl (ox_store_var t28 .tmp) ((.cons rfl (.one rfl))) (.one rfl) ?_
            refine Ops.nil ?_
            refine PT.sub (σ' := ⟨[(4, .val (a0)), (5, _)], [(5, .var (({ Err := (0 : Int), N := v1.1 } : Mk.Reply)) [])]⟩) ⟨rfl, rfl, trivial⟩ ⟨rfl, trivial⟩ ?_
            refine PT.ret ?_
            obtain rfl := Option.some.inj hφ
            exact PT.done hw0 rfl (.tmp rfl rfl (.cell t28 rfl rfl .nil)) rfl
          · replace hφ := if_else hφ hc9
            refine PT.sub (σ' := ⟨[(2, .elem (a0)), (3, _), (5, _), (6, .val (v1.1)), (8, _)], [(3, .var (a1) []), (5, .var (({ Err := (0 : Int), N := (0 : Int) } : Mk.Reply)) [])]⟩) ⟨rfl, rfl, rfl, rfl, rfl, trivial⟩ ⟨rfl, rfl, trivial⟩ ?_
            refine PT.seq ?_
            refine PT.region ?_
            refine Ops.put rfl rfl (ox_fieldAddr_var Call_Kind f23_0) (.one rfl) (.nil) rfl ?_
            refine Ops.put rfl rfl (ox_load_fld t3) (.one rfl) (.one rfl) rfl ?_
            refine Ops.put rfl rfl (ox_eql .tmp .int) ((.app (.one rfl) (.nil))) (.nil) rfl ?_
            refine Ops.put rfl rfl (ox_assign .tmp) (.one rfl) (.nil) rfl ?_
            refine Ops.nil ?_
            refine PT.sub (σ' := ⟨[(2, .elem (a0)), (3, _), (5, _), (6, .val (v1.1)), (8, _), (72, .val ((decide (a1.Kind = (3 : Int)))))], [(3, .var (a1) []), (5, .var (({ Err := (0 : Int), N := (0 : Int) } : Mk.Reply)) [])]⟩) ⟨rfl, rfl, rfl, rfl, rfl, rfl, trivial⟩ ⟨rfl, rfl, trivial⟩ ?_
            refine PT.cond _ rfl (fun hc10 => ?_) (fun hc10 => ?_)
            · replace hφ := if_then hφ hc10
              refine PT.sub (σ' := ⟨[(2, .elem (a0)), (3, _), (5, _), (6, .val (v1.1))], [(3, .var (a1) []), (5, .var (({ Err := (0 : Int), N := (0 : Int) } : Mk.Reply)) [])]⟩) ⟨rfl, rfl, rfl, rfl, trivial⟩ ⟨rfl, rfl, trivial⟩ ?_
              refine PT.seq ?_
              refine PT.region ?_
              refine Ops.put rfl rfl (ox_assign .nilS) (.nil) (.nil) rfl ?_
              refine Ops.nil ?_
              refine PT.sub (σ' := ⟨[(2, .elem (a0)), (3, _), (5, _), (6, .val (v1.1)), (9, .nilS)], [(3, .var (a1) []), (5, .var (({ Err := (0 : Int), N := (0 : Int) } : Mk.Reply)) [])]⟩) ⟨rfl, rfl, rfl, rfl, rfl, trivial⟩ ⟨rfl, rfl, trivial⟩ ?_
              obtain ⟨k11, hk11, hφ⟩ := J_some hφ
              refine PT.cut (ι := Int × Mk.Reply × (List Mk.Write)) (fun p => ⟨[(5, .ptr 5 (Lens.id (α := Mk.Reply))), (6, .val (p.1)), (9, .sl 1009)], [(5, .var (p.2.1) []), (1009, .arr 50 (p.2.2))]⟩) (fun p => k11 (p.1) (p.2.1) (p.2.2) = some r) ?_ ?_
              · skip
                refine PT.seq ?_
                refine PT.region ?_
                refine Ops.put rfl rfl (ox_load_elem t44) (.one rfl) (.nil) rfl ?_
                refine Ops.put rfl rfl (ox_len s44 .tmp) (.one rfl) (.nil) rfl ?_
                refine Ops.put rfl rfl (ox_move .int) (.nil) (.nil) rfl ?_
                refine Ops.nil ?_
                refine PT.sub (σ' := ⟨[(2, .elem (a0)), (3, _), (5, _), (6, .val (v1.1)), (9, .nilS), (76, .val (a0)), (77, .val ((a0.length : Int))), (78, .val ((0 : Int)))], [(3, .var (a1) []), (5, .var (({ Err := (0 : Int), N := (0 : Int) } : Mk.Reply)) [])]⟩) ⟨rfl, rfl, rfl, rfl, rfl, rfl, rfl, rfl, trivial⟩ ⟨rfl, rfl, trivial⟩ ?_
                refine PT.block ?_
                refine PT.nilArr 1009 9 50 (Mk.Write) rfl (by kernel_rfl) ?_
                refine PT.loop (ι := Nat × (List Mk.Write) × Int × (List Mk.Write) × Int × Int × Mk.Call × Mk.Reply × (List Mk.Write)) (fun p => ⟨[(2, .elem (p.2.1)), (3, .ptr 3 (Lens.id (α := Mk.Call))), (5, .ptr 5 (Lens.id (α := Mk.Reply))), (6, .val (p.2.2.1)), (9, .sl 1009), (76, .val (p.2.2.2.1)), (77, .val (p.2.2.2.2.1)), (78, .val (p.2.2.2.2.2.1))], [(3, .var (p.2.2.2.2.2.2.1) []), (5, .var (p.2.2.2.2.2.2.2.1) []), (1009, .arr 50 (p.2.2.2.2.2.2.2.2))]⟩) (fun p => mkref1_Do_l1 k11 p.1 (p.2.1) (p.2.2.1) (p.2.2.2.1) (p.2.2.2.2.1) (p.2.2.2.2.2.1) (p.2.2.2.2.2.2.1) (p.2.2.2.2.2.2.2.1) (p.2.2.2.2.2.2.2.2) = some r) (fun p => p.1) (((a0.length : Int) - (0 : Int)).toNat + 1, a0, v1.1, a0, (a0.length : Int), (0 : Int), a1, ({ Err := (0 : Int), N := (0 : Int) } : Mk.Reply), ([] : List Mk.Write)) hφ ⟨rfl, rfl, rfl, rfl, rfl, rfl, rfl, rfl, trivial⟩ ⟨rfl, rfl, rfl, trivial⟩ ?_
                rintro ⟨m12, x2_m12, x6_m12, x76_m12, x77_m12, x78_m12, y3_m12, y5_m12, y1009_m12⟩ (hφ : mkref1_Do_l1 k11 m12 x2_m12 x6_m12 x76_m12 x77_m12 x78_m12 y3_m12 y5_m12 y1009_m12 = some r)
                obtain _ | m12 := m12
                · exact (none_no hφ).elim
                rw [mkref1_Do_l1.eq_2] at hφ
                refine PT.sub (σ' := ⟨[(2, .elem (x2_m12)), (3, .ptr 3 (Lens.id (α := Mk.Call))), (5, .ptr 5 (Lens.id (α := Mk.Reply))), (6, .val (x6_m12)), (9, .sl 1009), (76, .val (x76_m12)), (77, .val (x77_m12)), (78, .val (x78_m12))], [(3, .var (y3_m12) []), (5, .var (y5_m12) []), (1009, .arr 50 (y1009_m12))]⟩) ⟨rfl, rfl, rfl, rfl, rfl, rfl, rfl, rfl, trivial⟩ ⟨rfl, rfl, rfl, trivial⟩ ?_
                refine PT.seq ?_
                refine PT.region ?_
                refine Ops.put rfl rfl (ox_lss .tmp .tmp) ((.app (.one rfl) (.one rfl))) (.nil) rfl ?_
                refine Ops.nil ?_
                refine PT.sub (σ' := ⟨[(2, .elem (x2_m12)), (3, _), (5, _), (6, .val (x6_m12)), (9, _), (76, .val (x76_m12)), (77, .val (x77_m12)), (78, .val (x78_m12)), (79, .val ((decide (x78_m12 < x77_m12))))], [(3, .var (y3_m12) []), (5, .var (y5_m12) []), (1009, .arr 50 (y1009_m12))]⟩) ⟨rfl, rfl, rfl, rfl, rfl, rfl, rfl, rfl, rfl, trivial⟩ ⟨rfl, rfl, rfl, trivial⟩ ?_
                refine PT.seq ?_
                refine PT.cond _ rfl (fun hc13 => ?_) (fun hc13 => ?_)
                · replace hφ := if_then hφ hc13
                  refine PT.sub (σ' := ⟨[(2, .elem (x2_m12)), (3, _), (5, _), (6, .val (x6_m12)), (9, _), (76, .val (x76_m12)), (77, .val (x77_m12)), (78, .val (x78_m12))], [(3, .var (y3_m12) []), (5, .var (y5_m12) []), (1009, .arr 50 (y1009_m12))]⟩) ⟨rfl, rfl, rfl, rfl, rfl, rfl, rfl, rfl, trivial⟩ ⟨rfl, rfl, rfl, trivial⟩ ?_
                  refine PT.skip ?_
                  obtain ⟨k14, hk14, hφ⟩ := J_some hφ
                  refine PT.cut (ι := (List Mk.Write) × Int × (List Mk.Write) × Int × Int × Mk.Call × Mk.Reply × (List Mk.Write)) (fun p => ⟨[(2, .elem (p.1)), (3, .ptr 3 (Lens.id (α := Mk.Call))), (5, .ptr 5 (Lens.id (α := Mk.Reply))), (6, .val (p.2.1)), (9, .sl 1009), (76, .val (p.2.2.1)), (77, .val (p.2.2.2.1)), (78, .val (p.2.2.2.2.1))], [(3, .var (p.2.2.2.2.2.1) []), (5, .var (p.2.2.2.2.2.2.1) []), (1009, .arr 50 (p.2.2.2.2.2.2.2))]⟩) (fun p => k14 (p.1) (p.2.1) (p.2.2.1) (p.2.2.2.1) (p.2.2.2.2.1) (p.2.2.2.2.2.1) (p.2.2.2.2.2.2.1) (p.2.2.2.2.2.2.2) = some r) ?_ ?_
                  · skip
                    refine PT.block ?_
                    refine PT.seq ?_
                    obtain ⟨hb15, hφ⟩ := G_some hφ
                    refine PT.region ?_
                    refine Ops.put rfl rfl (ox_move .tmp) (.one rfl) (.nil) rfl ?_
                    refine Ops.put rfl rfl (ox_ix s44 .tmp .tmp hb15.1 hb15.2) ((.app (.one rfl) (.one rfl))) (.nil) rfl ?_
                    refine Ops.put rfl rfl (ox_load_elem t50) (.one rfl) (.nil) rfl ?_
                    refine Ops.putO rfl rfl (ox_alloc (id := 11) z50) (.nil) (.nil) rfl (by kernel_rfl) ?_
                    refine Ops.put rfl rfl (ox_assign .tmp) (.one rfl) (.nil) rfl ?_
                    refine Ops.mute rfl rfl (ox_store_var t50 .tmp) ((.cons rfl (.one rfl))) (.one rfl) ?_
                    refine Ops.nil ?_
                    refine PT.sub (σ' := ⟨[(2, .elem (x2_m12)), (3, _), (5, _), (6, .val (x6_m12)), (9, _), (10, .val (x78_m12)), (11, _), (76, .val (x76_m12)), (77, .val (x77_m12)), (78, .val (x78_m12))], [(3, .var (y3_m12) []), (5, .var (y5_m12) []), (11, .var ((ix x76_m12 x78_m12)) []), (1009, .arr 50 (y1009_m12))]⟩) ⟨rfl, rfl, rfl, rfl, rfl, rfl, rfl, rfl, rfl, rfl, trivial⟩ ⟨rfl, rfl, rfl, rfl, trivial⟩ ?_
                    obtain ⟨k16, hk16, hφ⟩ := J_some hφ
                    refine PT.cut (ι := (List Mk.Write) × Int × Int × (List Mk.Write) × Int × Int × Mk.Call × Mk.Reply × Mk.Write × (List Mk.Write)) (fun p => ⟨[(2, .elem (p.1)), (3, .ptr 3 (Lens.id (α := Mk.Call))), (5, .ptr 5 (Lens.id (α := Mk.Reply))), (6, .val (p.2.1)), (9, .sl 1009), (10, .val (p.2.2.1)), (11, .ptr 11 (Lens.id (α := Mk.Write))), (76, .val (p.2.2.2.1)), (77, .val (p.2.2.2.2.1)), (78, .val (p.2.2.2.2.2.1))], [(3, .var (p.2.2.2.2.2.2.1) []), (5, .var (p.2.2.2.2.2.2.2.1) []), (11, .var (p.2.2.2.2.2.2.2.2.1) []), (1009, .arr 50 (p.2.2.2.2.2.2.2.2.2))]⟩) (fun p => k16 (p.1) (p.2.1) (p.2.2.1) (p.2.2.2.1) (p.2.2.2.2.1) (p.2.2.2.2.2.1) (p.2.2.2.2.2.2.1) (p.2.2.2.2.2.2.2.1) (p.2.2.2.2.2.2.2.2.1) (p.2.2.2.2.2.2.2.2.2) = some r) ?_ ?_
                    · skip
                      refine PT.seq ?_
                      refine PT.region ?_
                      refine Ops.put rfl rfl (ox_fieldAddr_var Write_At f50_0) (.one rfl) (.nil) rfl ?_
                      refine Ops.put rfl rfl (ox_load_fld t3) (.one rfl) (.one rfl) rfl ?_
                      refine Ops.put rfl rfl (ox_fieldAddr_var Call_Name f23_1) (.one rfl) (.nil) rfl ?_
                      refine Ops.put rfl rfl (ox_load_fld t3) (.one rfl) (.one rfl) rfl ?_
                      refine Ops.put rfl rfl (ox_eql .tmp .tmp) ((.app (.one rfl) (.one rfl))) (.nil) rfl ?_
                      refine Ops.nil ?_
                      refine PT.sub (σ' := ⟨[(2, .elem (x2_m12)), (3, _), (5, _), (6, .val (x6_m12)), (9, _), (10, .val (x78_m12)), (11, _), (76, .val (x76_m12)), (77, .val (x77_m12)), (78, .val (x78_m12)), (87, .val ((decide ((ix x76_m12 x78_m12).At = y3_m12.Name))))], [(3, .var (y3_m12) []), (5, .var (y5_m12) []), (11, .var ((ix x76_m12 x78_m12)) []), (1009, .arr 50 (y1009_m12))]⟩) ⟨rfl, rfl, rfl, rfl, rfl, rfl, rfl, rfl, rfl, rfl, rfl, trivial⟩ ⟨rfl, rfl, rfl, rfl, trivial⟩ ?_
                      refine PT.cond _ rfl (fun hc17 => ?_) (fun hc17 => ?_)
                      · replace hφ := if_then hφ hc17
                        refine PT.sub (σ' := ⟨[(2, .elem (x2_m12)), (3, _), (5, _), (6, .val (x6_m12)), (9, _), (10, .val (x78_m12)), (11, _), (76, .val (x76_m12)), (77, .val (x77_m12)), (78, .val (x78_m12))], [(3, .var (y3_m12) []), (5, .var (y5_m12) []), (11, .var ((ix x76_m12 x78_m12)) []), (1009, .arr 50 (y1009_m12))]⟩) ⟨rfl, rfl, rfl, rfl, rfl, rfl, rfl, rfl, rfl, rfl, trivial⟩ ⟨rfl, rfl, rfl, rfl, trivial⟩ ?_
                        obtain ⟨hb18, hφ⟩ := G_some hφ
                        obtain ⟨hb19, hφ⟩ := G_some hφ
                        refine PT.region ?_
                        refine Ops.put rfl rfl (ox_load_elem t44) (.one rfl) (.nil) rfl ?_
                        refine Ops.put rfl rfl (ox_load_elem t44) (.one rfl) (.nil) rfl ?_
                        refine Ops.put rfl rfl (ox_len s44 .tmp) (.one rfl) (.nil) rfl ?_
                        refine Ops.put rfl rfl (ox_sub .tmp .int hb18) ((.app (.one rfl) (.nil))) (.nil) rfl ?_
                        refine Ops.put rfl rfl (ox_ix s44 .tmp .tmp hb19.1 hb19.2) ((.app (.one rfl) (.one rfl))) (.nil) rfl ?_
                        refine Ops.put rfl rfl (ox_load_elem t50) (.one rfl) (.nil) rfl ?_
                        refine Ops.mute rfl rfl (ox_store_var t50 .tmp) ((.cons rfl (.one rfl))) (.one rfl) ?_
                        refine Ops.nil ?_
                        refine PT.sub (σ' := ⟨[(2, .elem (x2_m12)), (3, _), (5, _), (6, .val (x6_m12)), (9, _), (10, .val (x78_m12)), (11, _), (76, .val (x76_m12)), (77, .val (x77_m12)), (78, .val (x78_m12))], [(3, .var (y3_m12) []), (5, .var (y5_m12) []), (11, .var ((ix x2_m12 ((x2_m12.length : Int) - (1 : Int)))) []), (1009, .arr 50 (y1009_m12))]⟩) ⟨rfl, rfl, rfl, rfl, rfl, rfl, rfl, rfl, rfl, rfl, trivial⟩ ⟨rfl, rfl, rfl, rfl, trivial⟩ ?_
                        exact PT.meet (x2_m12, x6_m12, x78_m12, x76_m12, x77_m12, x78_m12, y3_m12, y5_m12, (ix x2_m12 ((x2_m12.length : Int) - (1 : Int))), y1009_m12) hφ ⟨rfl, rfl, rfl, rfl, rfl, rfl, rfl, rfl, rfl, rfl, trivial⟩ ⟨rfl, rfl, rfl, rfl, trivial⟩
                      · replace hφ := if_else hφ hc17
                        refine PT.sub (σ' := ⟨[(2, .elem (x2_m12)), (3, _), (5, _), (6, .val (x6_m12)), (9, _), (10, .val (x78_m12)), (11, _), (76, .val (x76_m12)), (77, .val (x77_m12)), (78, .val (x78_m12))], [(3, .var (y3_m12) []), (5, .var (y5_m12) []), (11, .var ((ix x76_m12 x78_m12)) []), (1009, .arr 50 (y1009_m12))]⟩) ⟨rfl, rfl, rfl, rfl, rfl, rfl, rfl, rfl, rfl, rfl, trivial⟩ ⟨rfl, rfl, rfl, rfl, trivial⟩ ?_
                        refine PT.skip ?_
                        exact PT.meet (x2_m12, x6_m12, x78_m12, x76_m12, x77_m12, x78_m12, y3_m12, y5_m12, (ix x76_m12 x78_m12), y1009_m12) hφ ⟨rfl, rfl, rfl, rfl, rfl, rfl, rfl, rfl, rfl, rfl, trivial⟩ ⟨rfl, rfl, rfl, rfl, trivial⟩
                    · rintro ⟨x2_k16, x6_k16, x10_k16, x76_k16, x77_k16, x78_k16, y3_k16, y5_k16, y11_k16, y1009_k16⟩ hφ
                      subst hk16
                      refine PT.sub (σ' := ⟨[(2, .elem (x2_k16)), (3, .ptr 3 (Lens.id (α := Mk.Call))), (5, .ptr 5 (Lens.id (α := Mk.Reply))), (6, .val (x6_k16)), (9, .sl 1009), (10, .val (x10_k16)), (11, .ptr 11 (Lens.id (α := Mk.Write))), (76, .val (x76_k16)), (77, .val (x77_k16)), (78, .val (x78_k16))], [(3, .var (y3_k16) []), (5, .var (y5_k16) []), (11, .var (y11_k16) []), (1009, .arr 50 (y1009_k16))]⟩) ⟨rfl, rfl, rfl, rfl, rfl, rfl, rfl, rfl, rfl, rfl, trivial⟩ ⟨rfl, rfl, rfl, rfl, trivial⟩ ?_
                      refine PT.seq ?_
                      obtain ⟨hb20, hφ⟩ := G_some hφ
                      refine PT.region ?_
                      refine Ops.put rfl rfl (ox_move .tmp) (.one rfl) (.nil) rfl ?_
                      refine Ops.put rfl rfl (ox_load_elem t44) (.one rfl) (.nil) rfl ?_
                      refine Ops.put rfl rfl (ox_len s44 .tmp) (.one rfl) (.nil) rfl ?_
                      refine Ops.put rfl rfl (ox_sub .tmp .int hb20) ((.app (.one rfl) (.nil))) (.nil) rfl ?_
                      refine Ops.put rfl rfl (ox_lss .tmp .tmp) ((.app (.one rfl) (.one rfl))) (.nil) rfl ?_
                      refine Ops.nil ?_
                      refine PT.sub (σ' := ⟨[(2, .elem (x2_k16)), (3, _), (5, _), (6, .val (x6_k16)), (9, _), (11, _), (76, .val (x76_k16)), (77, .val (x77_k16)), (78, .val (x78_k16)), (98, .val ((decide (x10_k16 < ((x2_k16.length : Int) - (1 : Int))))))], [(3, .var (y3_k16) []), (5, .var (y5_k16) []), (11, .var (y11_k16) []), (1009, .arr 50 (y1009_k16))]⟩) ⟨rfl, rfl, rfl, rfl, rfl, rfl, rfl, rfl, rfl, rfl, trivial⟩ ⟨rfl, rfl, rfl, rfl, trivial⟩ ?_
                      refine PT.cond _ rfl (fun hc21 => ?_) (fun hc21 => ?_)
                      · replace hφ := if_then hφ hc21
                        refine PT.sub (σ' := ⟨[(2, .elem (x2_k16)), (3, _), (5, _), (6, .val (x6_k16)), (9, _), (11, _), (76, .val (x76_k16)), (77, .val (x77_k16)), (78, .val (x78_k16))], [(3, .var (y3_k16) []), (5, .var (y5_k16) []), (11, .var (y11_k16) []), (1009, .arr 50 (y1009_k16))]⟩) ⟨rfl, rfl, rfl, rfl, rfl, rfl, rfl, rfl, rfl, trivial⟩ ⟨rfl, rfl, rfl, rfl, trivial⟩ ?_
                        obtain ⟨hb22, hφ⟩ := G_some hφ
                        refine PT.region ?_
                        refine Ops.put rfl rfl (ox_move .tmp) (.one rfl) (.nil) rfl ?_
                        refine Ops.put rfl rfl (ox_load_var t50) (.one rfl) (.one rfl) rfl ?_
                        refine Ops.put rfl rfl (ox_buildSlice_val s44 z50 (.cons .tmp Parts.nil) rfl (by decide)) ((.app (.one rfl) .nil)) (.nil) rfl ?_
                        refine Ops.putK [9, 99] rfl rfl (ox_append a44 .tmp .tmp hb22.1 hb22.2) ((.app (.one rfl) (.one rfl))) (.one rfl) rfl (by kernel_rfl) ?_
                        refine Ops.put rfl rfl (ox_assign .tmp) (.one rfl) (.nil) rfl ?_
                        refine Ops.nil ?_
                        refine PT.sub (σ' := ⟨[(2, .elem (x2_k16)), (3, _), (5, _), (6, .val (x6_k16)), (9, _), (76, .val (x76_k16)), (77, .val (x77_k16)), (78, .val (x78_k16))], [(3, .var (y3_k16) []), (5, .var (y5_k16) []), (1009, .arr 50 ((y1009_k16 ++ ([y11_k16] : List Mk.Write))))]⟩) ⟨rfl, rfl, rfl, rfl, rfl, rfl, rfl, rfl, trivial⟩ ⟨rfl, rfl, rfl, trivial⟩ ?_
                        exact PT.meet (x2_k16, x6_k16, x76_k16, x77_k16, x78_k16, y3_k16, y5_k16, (y1009_k16 ++ ([y11_k16] : List Mk.Write))) hφ ⟨rfl, rfl, rfl, rfl, rfl, rfl, rfl, rfl, trivial⟩ ⟨rfl, rfl, rfl, trivial⟩
                      · replace hφ := if_else hφ hc21
                        refine PT.sub (σ' := ⟨[(2, .elem (x2_k16)), (3, _), (5, _), (6, .val (x6_k16)), (9, _), (76, .val (x76_k16)), (77, .val (x77_k16)), (78, .val (x78_k16))], [(3, .var (y3_k16) []), (5, .var (y5_k16) []), (1009, .arr 50 (y1009_k16))]⟩) ⟨rfl, rfl, rfl, rfl, rfl, rfl, rfl, rfl, trivial⟩ ⟨rfl, rfl, rfl, trivial⟩ ?_
                        refine PT.skip ?_
                        exact PT.meet (x2_k16, x6_k16, x76_k16, x77_k16, x78_k16, y3_k16, y5_k16, y1009_k16) hφ ⟨rfl, rfl, rfl, rfl, rfl, rfl, rfl, rfl, trivial⟩ ⟨rfl, rfl, rfl, trivial⟩
                  · rintro ⟨x2_k14, x6_k14, x76_k14, x77_k14, x78_k14, y3_k14, y5_k14, y1009_k14⟩ hφ
                    subst hk14
                    refine PT.sub (σ' := ⟨[(2, .elem (x2_k14)), (3, .ptr 3 (Lens.id (α := Mk.Call))), (5, .ptr 5 (Lens.id (α := Mk.Reply))), (6, .val (x6_k14)), (9, .sl 1009), (76, .val (x76_k14)), (77, .val (x77_k14)), (78, .val (x78_k14))], [(3, .var (y3_k14) []), (5, .var (y5_k14) []), (1009, .arr 50 (y1009_k14))]⟩) ⟨rfl, rfl, rfl, rfl, rfl, rfl, rfl, rfl, trivial⟩ ⟨rfl, rfl, rfl, trivial⟩ ?_
                    obtain ⟨hb23, hφ⟩ := G_some hφ
                    refine PT.region ?_
                    refine Ops.put rfl rfl (ox_add .tmp .int hb23) ((.app (.one rfl) (.nil))) (.nil) rfl ?_
                    refine Ops.put rfl rfl (ox_move .tmp) (.one rfl) (.nil) rfl ?_
                    refine Ops.nil ?_
                    refine PT.sub (σ' := ⟨[(2, .elem (x2_k14)), (3, _), (5, _), (6, .val (x6_k14)), (9, _), (76, .val (x76_k14)), (77, .val (x77_k14)), (78, .val ((x78_k14 + (1 : Int))))], [(3, .var (y3_k14) []), (5, .var (y5_k14) []), (1009, .arr 50 (y1009_k14))]⟩) ⟨rfl, rfl, rfl, rfl, rfl, rfl, rfl, rfl, trivial⟩ ⟨rfl, rfl, rfl, trivial⟩ ?_
                    exact PT.next (m12, x2_k14, x6_k14, x76_k14, x77_k14, (x78_k14 + (1 : Int)), y3_k14, y5_k14, y1009_k14) hφ (Nat.lt_succ_self _) ⟨rfl, rfl, rfl, rfl, rfl, rfl, rfl, rfl, trivial⟩ ⟨rfl, rfl, rfl, trivial⟩
                · replace hφ := if_else hφ hc13
                  refine PT.sub (σ' := ⟨[(5, _), (6, .val (x6_m12)), (9, _)], [(5, .var (y5_m12) []), (1009, .arr 50 (y1009_m12))]⟩) ⟨rfl, rfl, rfl, trivial⟩ ⟨rfl, rfl, trivial⟩ ?_
                  refine PT.exit ?_
                  exact PT.meet (x6_m12, y5_m12, y1009_m12) hφ ⟨rfl, rfl, rfl, trivial⟩ ⟨rfl, rfl, trivial⟩
              · rintro ⟨x6_k11, y5_k11, y1009_k11⟩ hφ
                subst hk11
                refine PT.sub (σ' := ⟨[(5, .ptr 5 (Lens.id (α := Mk.Reply))), (6, .val (x6_k11)), (9, .sl 1009)], [(5, .var (y5_k11) []), (1009, .arr 50 (y1009_k11))]⟩) ⟨rfl, rfl, rfl, trivial⟩ ⟨rfl, rfl, trivial⟩ ?_
                refine PT.seq ?_
                refine PT.region ?_
                refine Ops.put rfl rfl (ox_move .tmp) (.one rfl) (.nil) rfl ?_
                refine Ops.put rfl rfl (ox_move .tmp) (.one rfl) (.nil) rfl ?_
                refine Ops.put rfl rfl (ox_buildB z28 u28 rfl (.cons Reply_N f28_1 .tmp Bld.nil)) ((.app (.one rfl) .nil)) (.nil) rfl ?_
                refine Ops.put rfl rfl (ox_assign .tmp) (.one rfl) (.nil) rfl ?_
                refine Ops.mute rfl rfl (ox_store_var t28 .tmp) ((.cons rfl (.one rfl))) (.one rfl) ?_
                refine Ops.nil ?_
                refine PT.sub (σ' := ⟨[(4, _), (5, _)], [(5, .var (({ Err := (0 : Int), N := x6_k11 } : Mk.Reply)) []), (1009, .arr 50 (y1009_k11))]⟩) ⟨rfl, rfl, trivial⟩ ⟨rfl, rfl, trivial⟩ ?_
                refine PT.ret ?_
                refine PT.freeze 1009 [4] rfl ⟨rfl, trivial⟩ ?_
                obtain rfl := Option.some.inj hφ
                exact PT.done hw0 rfl (.tmp rfl rfl (.cell t28 rfl rfl .nil)) rfl
            · replace hφ := if_else hφ hc10
              refine PT.sub (σ' := ⟨[(2, .elem (a0)), (3, _), (5, _), (6, .val (v1.1)), (8, _)], [(3, .var (a1) []), (5, .var (({ Err := (0 : Int), N := (0 : Int) } : Mk.Reply)) [])]⟩) ⟨rfl, rfl, rfl, rfl, rfl, trivial⟩ ⟨rfl, rfl, trivial⟩ ?_
              refine PT.seq ?_
              refine PT.region ?_
              refine Ops.put rfl rfl (ox_fieldAddr_var Call_Kind f23_0) (.one rfl) (.nil) rfl ?_
              refine Ops.put rfl rfl (ox_load_fld t3) (.one rfl) (.one rfl) rfl ?_
              refine Ops.put rfl rfl (ox_eql .tmp .int) ((.app (.one rfl) (.nil))) (.nil) rfl ?_
              refine Ops.put rfl rfl (ox_assign .tmp) (.one rfl) (.nil) rfl ?_
              refine Ops.nil ?_
              refine PT.sub (σ' := ⟨[(2, .elem (a0)), (3, _), (5, _), (6, .val (v1.1)), (8, _), (107, .val ((decide (a1.Kind = (4 : Int)))))], [(3, .var (a1) []), (5, .var (({ Err := (0 : Int), N := (0 : Int) } : Mk.Reply)) [])]⟩) ⟨rfl, rfl, rfl, rfl, rfl, rfl, trivial⟩ ⟨rfl, rfl, trivial⟩ ?_
              refine PT.cond _ rfl (fun hc24 => ?_) (fun hc24 => ?_)
              · replace hφ := if_then hφ hc24
                refine PT.sub (σ' := ⟨[(2, .elem (a0)), (3, _), (5, _), (6, .val (v1.1)), (8, _)], [(3, .var (a1) []), (5, .var (({ Err := (0 : Int), N := (0 : Int) } : Mk.Reply)) [])]⟩) ⟨rfl, rfl, rfl, rfl, rfl, trivial⟩ ⟨rfl, rfl, trivial⟩ ?_
                refine PT.seq ?_
                refine PT.seq ?_
                obtain ⟨hb25, hφ⟩ := G_some hφ
                obtain ⟨hb26, hφ⟩ := G_some hφ
                refine PT.region ?_
                refine Ops.put rfl rfl (ox_move .tmp) (.one rfl) (.nil) rfl ?_
                refine Ops.put rfl rfl (ox_fieldAddr_var Call_N f23_3) (.one rfl) (.nil) rfl ?_
                refine Ops.put rfl rfl (ox_load_fld t3) (.one rfl) (.one rfl) rfl ?_
                refine Ops.put rfl rfl (ox_add .tmp .tmp hb25) ((.app (.one rfl) (.one rfl))) (.nil) rfl ?_
                refine Ops.put rfl rfl (ox_gtr .tmp .int) ((.app (.one rfl) (.nil))) (.nil) rfl ?_
                refine Ops.put rfl rfl (ox_move .tmp) (.one rfl) (.nil) rfl ?_
                refine Ops.guard rfl rfl rfl rfl (.plain .nil) (fun hG => (ox_move .tmp)) ⟨rfl, trivial⟩ (.nil) rfl ?_
                refine Ops.guard rfl rfl rfl rfl (.plain .nil) (fun hG => (ox_fieldAddr_var Call_N f23_3)) ⟨rfl, trivial⟩ (.nil) rfl ?_
                refine Ops.guard rfl rfl rfl rfl (.cond (fun h => h) .nil) (fun hG => (ox_load_fld t3)) ⟨rfl, trivial⟩ (.one rfl) rfl ?_
                refine Ops.guard rfl rfl rfl rfl (.cond (fun h => h) (.cond (fun h => h) .nil)) (fun hG => (ox_add .tmp .tmp (hb26 hG))) ⟨rfl, rfl, trivial⟩ (.nil) rfl ?_
                refine Ops.guard rfl rfl rfl rfl (.cond (fun h => h) .nil) (fun hG => (ox_lss .tmp .int)) ⟨rfl, trivial⟩ (.nil) rfl ?_
                refine Ops.put rfl rfl ox_pick_or (⟨rfl, rfl, trivial⟩) (.nil) rfl ?_
                refine Ops.nil ?_
                refine PT.sub (σ' := ⟨[(2, .elem (a0)), (3, _), (5, _), (6, .val (v1.1)), (8, _), (122, .val (((decide ((1073741824 : Int) < (v1.1 + a1.N))) || (decide ((v1.1 + a1.N) < (-1073741824 : Int))))))], [(3, .var (a1) []), (5, .var (({ Err := (0 : Int), N := (0 : Int) } : Mk.Reply)) [])]⟩) ⟨rfl, rfl, rfl, rfl, rfl, rfl, trivial⟩ ⟨rfl, rfl, trivial⟩ ?_
                refine PT.cond _ rfl (fun hc27 => ?_) (fun hc27 => ?_)
                · replace hφ := if_then hφ hc27
                  refine PT.sub (σ' := ⟨[(5, _), (8, _)], [(5, .var (({ Err := (0 : Int), N := (0 : Int) } : Mk.Reply)) [])]⟩) ⟨rfl, rfl, trivial⟩ ⟨rfl, trivial⟩ ?_
                  refine PT.seq ?_
                  obtain ⟨v28, hv28, hφ⟩ := B_some hφ
                  refine PT.region ?_
                  refine Ops.put rfl rfl (ox_move .tmp) (.one rfl) (.nil) rfl ?_
                  refine Ops.put rfl rfl (ox_callv (c_mkref1_Do_1 hv28) (.cons .int .nil)) ((.cons rfl ((.app (.nil) .nil)))) (.nil) rfl ?_
                  refine Ops.put rfl rfl (ox_extract rfl) (.one rfl) (.nil) rfl ?_
                  refine Ops.put rfl rfl (ox_extract rfl) (.one rfl) (.nil) rfl ?_
                  refine Ops.put rfl rfl (ox_assign .tmp) (.one rfl) (.nil) rfl ?_
                  refine Ops.mute rfl rfl (ox_store_var t28 .tmp) ((.cons rfl (.one rfl))) (.one rfl) ?_
                  refine Ops.nil ?_
                  refine PT.sub (σ' := ⟨[(4, .val (v28.1)), (5, _)], [(5, .var (v28.2) [])]⟩) ⟨rfl, rfl, trivial⟩ ⟨rfl, trivial⟩ ?_
                  refine PT.ret ?_
                  obtain rfl := Option.some.inj hφ
                  exact PT.done hw0 rfl (.tmp rfl rfl (.cell t28 rfl rfl .nil)) rfl
                · replace hφ := if_else hφ hc27
                  refine PT.sub (σ' := ⟨[(2, .elem (a0)), (3, _), (5, _), (6, .val (v1.1))], [(3, .var (a1) []), (5, .var (({ Err := (0 : Int), N := (0 : Int) } : Mk.Reply)) [])]⟩) ⟨rfl, rfl, rfl, rfl, trivial⟩ ⟨rfl, rfl, trivial⟩ ?_
                  refine PT.skip ?_
                  refine PT.seq ?_
                  obtain ⟨hb29, hφ⟩ := G_some hφ
                  obtain ⟨v30, hv30, hφ⟩ := B_some hφ
                  obtain ⟨hb31, hφ⟩ := G_some hφ
                  refine PT.draw hMixed (
                      Segs.cons (Step.put rfl rfl (ox_load_elem t44)) ⟨.one rfl, .nil⟩ (by kernel_rfl) rfl <|
                      Segs.cons (Step.put rfl rfl (ox_fieldAddr_var Call_Name f23_1)) ⟨.one rfl, .nil⟩ (by kernel_rfl) rfl <|
                      Segs.cons (Step.put rfl rfl (ox_load_fld t3)) ⟨.one rfl, .one rfl⟩ (by kernel_rfl) rfl <|
                      Segs.cons (Step.put rfl rfl (ox_move .tmp)) ⟨.one rfl, .nil⟩ (by kernel_rfl) rfl <|
                      Segs.cons (Step.put rfl rfl (ox_fieldAddr_var Call_N f23_3)) ⟨.one rfl, .nil⟩ (by kernel_rfl) rfl <|
                      Segs.cons (Step.put rfl rfl (ox_load_fld t3)) ⟨.one rfl, .one rfl⟩ (by kernel_rfl) rfl <|
                      Segs.cons (Step.put rfl rfl (ox_add .tmp .tmp hb29)) ⟨(.app (.one rfl) (.one rfl)), .nil⟩ (by kernel_rfl) rfl <|
                      Segs.cons (Step.put rfl rfl (ox_call (c_mkref1_set hv30) (.cons .tmp (.cons .tmp (.cons .tmp .nil))))) ⟨(.app (.one rfl) (.app (.one rfl) (.app (.one rfl) .nil))), .nil⟩ (by kernel_rfl) rfl <|
                      Segs.cons (Step.put rfl rfl (ox_move .tmp)) ⟨.one rfl, .nil⟩ (by kernel_rfl) rfl <|
                      Segs.cons (Step.put rfl rfl (ox_fieldAddr_var Call_N f23_3)) ⟨.one rfl, .nil⟩ (by kernel_rfl) rfl <|
                      Segs.cons (Step.put rfl rfl (ox_load_fld t3)) ⟨.one rfl, .one rfl⟩ (by kernel_rfl) rfl <|
                      Segs.cons (Step.put rfl rfl (ox_add .tmp .tmp hb31)) ⟨(.app (.one rfl) (.one rfl)), .nil⟩ (by kernel_rfl) rfl <|
                      Segs.cons (Step.put rfl rfl (ox_buildB z28 u28 rfl (.cons Reply_N f28_1 .tmp Bld.nil))) ⟨(.app (.one rfl) .nil), .nil⟩ (by kernel_rfl) rfl <|
                      Segs.cons (Step.put rfl rfl (ox_assign .tmp)) ⟨.one rfl, .nil⟩ (by kernel_rfl) rfl <|
                      Segs.cons (Step.mute rfl rfl (ox_store_var t28 .tmp)) ⟨(.cons rfl (.one rfl)), .one rfl⟩ (by kernel_rfl) rfl <|
                      Segs.nil) _ [[], [], [1], [], [], [4], [3, 4, 5], [0, 1, 2, 3, 4, 5, 6], [], [], [9], [8, 9, 10], [8, 9, 10, 11], [0, 1, 2, 3, 4, 5, 6, 7], [0, 1, 2, 3, 4, 5, 6, 7, 8, 9, 10, 11, 12, 13]] rfl (by kernel_rfl) (by kernel_rfl) ?_
                  refine PT.sub (σ' := ⟨[(4, .val (v30)), (5, _)], [(5, .var (({ Err := (0 : Int), N := (v1.1 + a1.N) } : Mk.Reply)) [])]⟩) ⟨rfl, rfl, trivial⟩ ⟨rfl, trivial⟩ ?_
                  refine PT.ret ?_
                  obtain rfl := Option.some.inj hφ
                  exact PT.done hw0 rfl (.tmp rfl rfl (.cell t28 rfl rfl .nil)) rfl
              · replace hφ := if_else hφ hc24
                refine PT.sub (σ' := ⟨[(2, .elem (a0)), (3, _), (5, _), (6, .val (v1.1)), (8, _)], [(3, .var (a1) []), (5, .var (({ Err := (0 : Int), N := (0 : Int) } : Mk.Reply)) [])]⟩) ⟨rfl, rfl, rfl, rfl, rfl, trivial⟩ ⟨rfl, rfl, trivial⟩ ?_
                refine PT.skip ?_
                refine PT.seq ?_
                obtain ⟨v32, hv32, hφ⟩ := B_some hφ
                refine PT.region ?_
                refine Ops.put rfl rfl (ox_load_elem t44) (.one rfl) (.nil) rfl ?_
                refine Ops.put rfl rfl (ox_fieldAddr_var Call_Other f23_2) (.one rfl) (.nil) rfl ?_
                refine Ops.put rfl rfl (ox_load_fld t3) (.one rfl) (.one rfl) rfl ?_
                refine Ops.put rfl rfl (ox_call (c_mkref1_get hv32) (.cons .tmp (.cons .tmp .nil))) ((.app (.one rfl) (.app (.one rfl) .nil))) (.nil) rfl ?_
                refine Ops.put rfl rfl (ox_move .tmp) (.one rfl) (.nil) rfl ?_
                refine Ops.put rfl rfl (ox_extract rfl) (.one rfl) (.nil) rfl ?_
                refine Ops.put rfl rfl (ox_extract rfl) (.one rfl) (.nil) rfl ?_
                refine Ops.put rfl rfl (ox_assign .tmp) (.one rfl) (.nil) rfl ?_
                refine Ops.put rfl rfl (ox_assign .tmp) (.one rfl) (.nil) rfl ?_
                refine Ops.nil ?_
                refine PT.sub (σ' := ⟨[(2, .elem (a0)), (3, _), (5, _), (6, .val (v1.1)), (7, .val (v32.2)), (8, _), (12, .val (v32.1))], [(3, .var (a1) []), (5, .var (({ Err := (0 : Int), N := (0 : Int) } : Mk.Reply)) [])]⟩) ⟨rfl, rfl, rfl, rfl, rfl, rfl, rfl, trivial⟩ ⟨rfl, rfl, trivial⟩ ?_
                refine PT.seq ?_
                refine PT.seq ?_
                refine PT.region ?_
                refine Ops.put rfl rfl (ox_move .tmp) (.one rfl) (.nil) rfl ?_
                refine Ops.put rfl rfl (ox_not .tmp) (.one rfl) (.nil) rfl ?_
                refine Ops.nil ?_
                refine PT.sub (σ' := ⟨[(2, .elem (a0)), (3, _), (5, _), (6, .val (v1.1)), (8, _), (12, .val (v32.1)), (148, .val ((!v32.2)))], [(3, .var (a1) []), (5, .var (({ Err := (0 : Int), N := (0 : Int) } : Mk.Reply)) [])]⟩) ⟨rfl, rfl, rfl, rfl, rfl, rfl, rfl, trivial⟩ ⟨rfl, rfl, trivial⟩ ?_
                refine PT.cond _ rfl (fun hc33 => ?_) (fun hc33 => ?_)
                · replace hφ := if_then hφ hc33
                  refine PT.sub (σ' := ⟨[(5, _), (8, _)], [(5, .var (({ Err := (0 : Int), N := (0 : Int) } : Mk.Reply)) [])]⟩) ⟨rfl, rfl, trivial⟩ ⟨rfl, trivial⟩ ?_
                  refine PT.seq ?_
                  obtain ⟨v34, hv34, hφ⟩ := B_some hφ
                  refine PT.region ?_
                  refine Ops.put rfl rfl (ox_move .tmp) (.one rfl) (.nil) rfl ?_
                  refine Ops.put rfl rfl (ox_callv (c_mkref1_Do_1 hv34) (.cons .int .nil)) ((.cons rfl ((.app (.nil) .nil)))) (.nil) rfl ?_
                  refine Ops.put rfl rfl (ox_extract rfl) (.one rfl) (.nil) rfl ?_
                  refine Ops.put rfl rfl (ox_extract rfl) (.one rfl) (.nil) rfl ?_
                  refine Ops.put rfl rfl (ox_assign .tmp) (.one rfl) (.nil) rfl ?_
                  refine Ops.mute rfl rfl (ox_store_var t28 .tmp) ((.cons rfl (.one rfl))) (.one rfl) ?_
                  refine Ops.nil ?_
                  refine PT.sub (σ' := ⟨[(4, .val (v34.1)), (5, _)], [(5, .var (v34.2) [])]⟩) ⟨rfl, rfl, trivial⟩ ⟨rfl, trivial⟩ ?_
                  refine PT.ret ?_
                  obtain rfl := Option.some.inj hφ
                  exact PT.done hw0 rfl (.tmp rfl rfl (.cell t28 rfl rfl .nil)) rfl
                · replace hφ := if_else hφ hc33
                  refine PT.sub (σ' := ⟨[(2, .elem (a0)), (3, _), (5, _), (6, .val (v1.1)), (12, .val (v32.1))], [(3, .var (a1) []), (5, .var (({ Err := (0 : Int), N := (0 : Int) } : Mk.Reply)) [])]⟩) ⟨rfl, rfl, rfl, rfl, rfl, trivial⟩ ⟨rfl, rfl, trivial⟩ ?_
                  refine PT.skip ?_
                  refine PT.seq ?_
                  obtain ⟨v35, hv35, hφ⟩ := B_some hφ
                  obtain ⟨v36, hv36, hφ⟩ := B_some hφ
                  refine PT.draw hMixed (
                      Segs.cons (Step.put rfl rfl (ox_load_elem t44)) ⟨.one rfl, .nil⟩ (by kernel_rfl) rfl <|
                      Segs.cons (Step.put rfl rfl (ox_fieldAddr_var Call_Name f23_1)) ⟨.one rfl, .nil⟩ (by kernel_rfl) rfl <|
                      Segs.cons (Step.put rfl rfl (ox_load_fld t3)) ⟨.one rfl, .one rfl⟩ (by kernel_rfl) rfl <|
                      Segs.cons (Step.put rfl rfl (ox_move .tmp)) ⟨.one rfl, .nil⟩ (by kernel_rfl) rfl <|
                      Segs.cons (Step.put rfl rfl (ox_call (c_mkref1_set hv35) (.cons .tmp (.cons .tmp (.cons .tmp .nil))))) ⟨(.app (.one rfl) (.app (.one rfl) (.app (.one rfl) .nil))), .nil⟩ (by kernel_rfl) rfl <|
                      Segs.cons (Step.put rfl rfl (ox_fieldAddr_var Call_Other f23_2)) ⟨.one rfl, .nil⟩ (by kernel_rfl) rfl <|
                      Segs.cons (Step.put rfl rfl (ox_load_fld t3)) ⟨.one rfl, .one rfl⟩ (by kernel_rfl) rfl <|
                      Segs.cons (Step.put rfl rfl (ox_move .tmp)) ⟨.one rfl, .nil⟩ (by kernel_rfl) rfl <|
                      Segs.cons (Step.put rfl rfl (ox_call (c_mkref1_set hv36) (.cons .tmp (.cons .tmp (.cons .tmp .nil))))) ⟨(.app (.one rfl) (.app (.one rfl) (.app (.one rfl) .nil))), .nil⟩ (by kernel_rfl) rfl <|
                      Segs.cons (Step.put rfl rfl (ox_move .tmp)) ⟨.one rfl, .nil⟩ (by kernel_rfl) rfl <|
                      Segs.cons (Step.put rfl rfl (ox_buildB z28 u28 rfl (.cons Reply_N f28_1 .tmp Bld.nil))) ⟨(.app (.one rfl) .nil), .nil⟩ (by kernel_rfl) rfl <|
                      Segs.cons (Step.put rfl rfl (ox_assign .tmp)) ⟨.one rfl, .nil⟩ (by kernel_rfl) rfl <|
                      Segs.cons (Step.mute rfl rfl (ox_store_var t28 .tmp)) ⟨(.cons rfl (.one rfl)), .one rfl⟩ (by kernel_rfl) rfl <|
                      Segs.nil) _ [[], [], [1], [], [0, 1, 2, 3], [], [5], [], [0, 1, 2, 3, 4, 5, 6, 7], [], [9], [0, 1, 2, 3, 4, 5, 6, 7, 8], [0, 1, 2, 3, 4, 5, 6, 7, 8, 9, 10, 11]] rfl (by kernel_rfl) (by kernel_rfl) ?_
                  refine PT.sub (σ' := ⟨[(4, .val (v36)), (5, _)], [(5, .var (({ Err := (0 : Int), N := v32.1 } : Mk.Reply)) [])]⟩) ⟨rfl, rfl, trivial⟩ ⟨rfl, trivial⟩ ?_
                  refine PT.ret ?_
                  obtain rfl := Option.some.inj hφ
                  exact PT.done hw0 rfl (.tmp rfl rfl (.cell t28 rfl rfl .nil)) rfl
theorem c_mkref1_SameWrites {a0 : List Mk.Write} {a1 : List Mk.Write} {r : Bool} (hφ : mkref1_SameWrites a0 a1 = some r) : Fn Go.Proofs.Try.prog 61 [.val a0, .val a1] (.val r) := by
  unfold mkref1_SameWrites at hφ
  refine Fn.mk' Go.Proofs.Try.func61 rfl (by decide) rfl rfl rfl (fun w0 hw0 => ?_)
  refine PT.seq ?_
  refine PT.region ?_
  refine Ops.put rfl rfl (ox_assign .bool) (.nil) (.nil) rfl ?_
  refine Ops.nil ?_
  refine PT.sub (σ' := ⟨[(0, .val (a0)), (1, .val (a1))], []⟩) ⟨rfl, rfl, trivial⟩ trivial ?_
  refine PT.seq ?_
  refine PT.seq ?_
  refine PT.region ?_
  refine Ops.put rfl rfl (ox_move .tmp) (.one rfl) (.nil) rfl ?_
  refine Ops.put rfl rfl (ox_len s44 .tmp) (.one rfl) (.nil) rfl ?_
  refine Ops.put rfl rfl (ox_move .tmp) (.one rfl) (.nil) rfl ?_
  refine Ops.put rfl rfl (ox_len s44 .tmp) (.one rfl) (.nil) rfl ?_
  refine Ops.put rfl rfl (ox_neq .tmp .tmp) ((.app (.one rfl) (.one rfl))) (.nil) rfl ?_
  refine Ops.nil ?_
  refine PT.sub (σ' := ⟨[(0, .val (a0)), (1, .val (a1)), (10, .val ((!decide ((a0.length : Int) = (a1.length : Int)))))], []⟩) ⟨rfl, rfl, rfl, trivial⟩ trivial ?_
  refine PT.cond _ rfl (fun hc1 => ?_) (fun hc1 => ?_)
  · replace hφ := if_then hφ hc1
    refine PT.sub (σ' := ⟨[], []⟩) trivial trivial ?_
    refine PT.seq ?_
    refine PT.region ?_
    refine Ops.put rfl rfl (ox_assign .bool) (.nil) (.nil) rfl ?_
    refine Ops.nil ?_
    refine PT.sub (σ' := ⟨[(4, .val (false))], []⟩) ⟨rfl, trivial⟩ trivial ?_
    refine PT.ret ?_
    obtain rfl := Option.some.inj hφ
    exact PT.done hw0 rfl (.tmp rfl rfl .nil) rfl
  · replace hφ := if_else hφ hc1
    refine PT.sub (σ' := ⟨[(0, .val (a0)), (1, .val (a1))], []⟩) ⟨rfl, rfl, trivial⟩ trivial ?_
    refine PT.skip ?_
    obtain ⟨k2, hk2, hφ⟩ := J_some hφ
    refine PT.cut (ι := Unit) (fun p => ⟨[], []⟩) (fun p => k2 () = some r) ?_ ?_
    · skip
      refine PT.seq ?_
      refine PT.region ?_
      refine Ops.put rfl rfl (ox_move .tmp) (.one rfl) (.nil) rfl ?_
      refine Ops.put rfl rfl (ox_len s44 .tmp) (.one rfl) (.nil) rfl ?_
      refine Ops.put rfl rfl (ox_move .int) (.nil) (.nil) rfl ?_
      refine Ops.nil ?_
      refine PT.sub (σ' := ⟨[(0, .val (a0)), (1, .val (a1)), (12, .val ((a0.length : Int))), (13, .val ((0 : Int)))], []⟩) ⟨rfl, rfl, rfl, rfl, trivial⟩ trivial ?_
      refine PT.block ?_
      refine PT.loop (ι := Nat × (List Mk.Write) × (List Mk.Write) × Int × Int) (fun p => ⟨[(0, .val (p.2.1)), (1, .val (p.2.2.1)), (12, .val (p.2.2.2.1)), (13, .val (p.2.2.2.2))], []⟩) (fun p => mkref1_SameWrites_l1 k2 p.1 (p.2.1) (p.2.2.1) (p.2.2.2.1) (p.2.2.2.2) = some r) (fun p => p.1) (((a0.length : Int) - (0 : Int)).toNat + 1, a0, a1, (a0.length : Int), (0 : Int)) hφ ⟨rfl, rfl, rfl, rfl, trivial⟩ trivial ?_
      rintro ⟨m3, x0_m3, x1_m3, x12_m3, x13_m3⟩ (hφ : mkref1_SameWrites_l1 k2 m3 x0_m3 x1_m3 x12_m3 x13_m3 = some r)
      obtain _ | m3 := m3
      · exact (none_no hφ).elim
      rw [mkref1_SameWrites_l1.eq_2] at hφ
      refine PT.sub (σ' := ⟨[(0, .val (x0_m3)), (1, .val (x1_m3)), (12, .val (x12_m3)), (13, .val (x13_m3))], []⟩) ⟨rfl, rfl, rfl, rfl, trivial⟩ trivial ?_
      refine PT.seq ?_
      refine PT.region ?_
      refine Ops.put rfl rfl (ox_lss .tmp .tmp) ((.app (.one rfl) (.one rfl))) (.nil) rfl ?_
      refine Ops.nil ?_
      refine PT.sub (σ' := ⟨[(0, .val (x0_m3)), (1, .val (x1_m3)), (12, .val (x12_m3)), (13, .val (x13_m3)), (14, .val ((decide (x13_m3 < x12_m3))))], []⟩) ⟨rfl, rfl, rfl, rfl, rfl, trivial⟩ trivial ?_
      refine PT.seq ?_
      refine PT.cond _ rfl (fun hc4 => ?_) (fun hc4 => ?_)
      · replace hφ := if_then hφ hc4
        refine PT.sub (σ' := ⟨[(0, .val (x0_m3)), (1, .val (x1_m3)), (12, .val (x12_m3)), (13, .val (x13_m3))], []⟩) ⟨rfl, rfl, rfl, rfl, trivial⟩ trivial ?_
        refine PT.skip ?_
        refine PT.seq ?_
        refine PT.block ?_
        refine PT.seq ?_
        refine PT.region ?_
        refine Ops.put rfl rfl (ox_move .tmp) (.one rfl) (.nil) rfl ?_
        refine Ops.put rfl rfl (ox_assign .tmp) (.one rfl) (.nil) rfl ?_
        refine Ops.nil ?_
        refine PT.sub (σ' := ⟨[(0, .val (x0_m3)), (1, .val (x1_m3)), (5, .val (x13_m3)), (12, .val (x12_m3)), (13, .val (x13_m3))], []⟩) ⟨rfl, rfl, rfl, rfl, rfl, trivial⟩ trivial ?_
        refine PT.seq ?_
        obtain ⟨hb5, hφ⟩ := G_some hφ
        obtain ⟨hb6, hφ⟩ := G_some hφ
        refine PT.draw hMixed (
            Segs.cons (Step.put rfl rfl (ox_move .tmp)) ⟨.one rfl, .nil⟩ (by kernel_rfl) rfl <|
            Segs.cons (Step.put rfl rfl (ox_move .tmp)) ⟨.one rfl, .nil⟩ (by kernel_rfl) rfl <|
            Segs.cons (Step.put rfl rfl (ox_ix s44 .tmp .tmp hb5.1 hb5.2)) ⟨(.app (.one rfl) (.one rfl)), .nil⟩ (by kernel_rfl) rfl <|
            Segs.cons (Step.put rfl rfl (ox_load_elem t50)) ⟨.one rfl, .nil⟩ (by kernel_rfl) rfl <|
            Segs.cons (Step.put rfl rfl (ox_move .tmp)) ⟨.one rfl, .nil⟩ (by kernel_rfl) rfl <|
            Segs.cons (Step.put rfl rfl (ox_move .tmp)) ⟨.one rfl, .nil⟩ (by kernel_rfl) rfl <|
            Segs.cons (Step.put rfl rfl (ox_ix s44 .tmp .tmp hb6.1 hb6.2)) ⟨(.app (.one rfl) (.one rfl)), .nil⟩ (by kernel_rfl) rfl <|
            Segs.cons (Step.put rfl rfl (ox_load_elem t50)) ⟨.one rfl, .nil⟩ (by kernel_rfl) rfl <|
            Segs.cons (Step.put rfl rfl (ox_neqT e50 .tmp .tmp)) ⟨(.app (.one rfl) (.one rfl)), .nil⟩ (by kernel_rfl) rfl <|
            Segs.nil) _ [[], [], [0, 1], [0, 1, 2], [], [], [4, 5], [4, 5, 6], [0, 1, 2, 3, 4, 5, 6, 7]] rfl (by kernel_rfl) (by kernel_rfl) ?_
        refine PT.sub (σ' := ⟨[(0, .val (x0_m3)), (1, .val (x1_m3)), (12, .val (x12_m3)), (13, .val (x13_m3)), (24, .val ((!decide ((ix x0_m3 x13_m3) = (ix x1_m3 x13_m3)))))], []⟩) ⟨rfl, rfl, rfl, rfl, rfl, trivial⟩ trivial ?_
        refine PT.cond _ rfl (fun hc7 => ?_) (fun hc7 => ?_)
        · replace hφ := if_then hφ hc7
          refine PT.sub (σ' := ⟨[], []⟩) trivial trivial ?_
          refine PT.seq ?_
          refine PT.region ?_
          refine Ops.put rfl rfl (ox_assign .bool) (.nil) (.nil) rfl ?_
          refine Ops.nil ?_
          refine PT.sub (σ' := ⟨[(4, .val (false))], []⟩) ⟨rfl, trivial⟩ trivial ?_
          refine PT.ret ?_
          obtain rfl := Option.some.inj hφ
          exact PT.done hw0 rfl (.tmp rfl rfl .nil) rfl
        · replace hφ := if_else hφ hc7
          refine PT.sub (σ' := ⟨[(0, .val (x0_m3)), (1, .val (x1_m3)), (12, .val (x12_m3)), (13, .val (x13_m3))], []⟩) ⟨rfl, rfl, rfl, rfl, trivial⟩ trivial ?_
          refine PT.skip ?_
          obtain ⟨hb8, hφ⟩ := G_some hφ
          refine PT.region ?_
          refine Ops.put rfl rfl (ox_add .tmp .int hb8) ((.app (.one rfl) (.nil))) (.nil) rfl ?_
          refine Ops.put rfl rfl (ox_move .tmp) (.one rfl) (.nil) rfl ?_
          refine Ops.nil ?_
          refine PT.sub (σ' := ⟨[(0, .val (x0_m3)), (1, .val (x1_m3)), (12, .val (x12_m3)), (13, .val ((x13_m3 + (1 : Int))))], []⟩) ⟨rfl, rfl, rfl, rfl, trivial⟩ trivial ?_
          exact PT.next (m3, x0_m3, x1_m3, x12_m3, (x13_m3 + (1 : Int))) hφ (Nat.lt_succ_self _) ⟨rfl, rfl, rfl, rfl, trivial⟩ trivial
      · replace hφ := if_else hφ hc4
        refine PT.sub (σ' := ⟨[], []⟩) trivial trivial ?_
        refine PT.exit ?_
        exact PT.meet () hφ trivial trivial
    · rintro ⟨⟩ hφ
      subst hk2
      refine PT.sub (σ' := ⟨[], []⟩) trivial trivial ?_
      refine PT.seq ?_
      refine PT.region ?_
      refine Ops.put rfl rfl (ox_assign .bool) (.nil) (.nil) rfl ?_
      refine Ops.nil ?_
      refine PT.sub (σ' := ⟨[(4, .val (true))], []⟩) ⟨rfl, trivial⟩ trivial ?_
      refine PT.ret ?_
      obtain rfl := Option.some.inj hφ
      exact PT.done hw0 rfl (.tmp rfl rfl .nil) rfl
end Go.Gx
end
section
namespace Go.Gx
open Sp
set_option linter.unusedVariables false
set_option linter.unusedSimpArgs false
set_option maxRecDepth 20000
theorem x_slices_Clone___api_Write_api_Write_ {a0 : List Mk.Write} {r : ((List Mk.Write))} (hφ : slices_Clone___api_Write_api_Write_ a0 = some r) : FnX Go.Proofs.Try.prog 94 [.val a0] [] (.sl 5) [(5, .arr 50 r)] [] := by
  unfold slices_Clone___api_Write_api_Write_ at hφ
  refine FnX.mk' Go.Proofs.Try.func94 rfl (by decide) rfl (fun w0 m0 => ?_)
  refine PT.seq ?_
  refine PT.region ?_
  refine Ops.put rfl rfl (ox_assign .nilS) (.nil) (.nil) rfl ?_
  refine Ops.nil ?_
  refine PT.sub (σ' := ⟨[(0, .val (a0))], []⟩) ⟨rfl, trivial⟩ trivial ?_
  refine PT.seq ?_
  refine PT.seq ?_
  refine PT.region ?_
  refine Ops.put rfl rfl (ox_move .tmp) (.one rfl) (.nil) rfl ?_
  refine Ops.put rfl rfl (ox_isNil (by kernel_rfl) .tmp .nilS) ((.app (.one rfl) (.nil))) (.nil) rfl ?_
  refine Ops.nil ?_
  refine PT.sub (σ' := ⟨[(0, .val (a0)), (4, _)], []⟩) ⟨rfl, rfl, trivial⟩ trivial ?_
  refine PT.condB _ rfl (fun hc1 => ?_) (fun _ => ?_)
  · have hc1e := hc1 rfl
    refine PT.sub (σ' := ⟨[], []⟩) trivial trivial ?_
    refine PT.seq ?_
    refine PT.region ?_
    refine Ops.put rfl rfl (ox_assign .nilS) (.nil) (.nil) rfl ?_
    refine Ops.nil ?_
    refine PT.sub (σ' := ⟨[(2, .nilS)], []⟩) ⟨rfl, trivial⟩ trivial ?_
    refine PT.ret ?_
    refine PT.nilArr 5 2 50 (Mk.Write) rfl (by kernel_rfl) ?_
    rw [hc1e] at hφ
    obtain ⟨_, hφ⟩ := G_some hφ
    obtain rfl := Option.some.inj hφ
    exact PT.doneX rfl (.tmp rfl .nil) rfl ⟨rfl, trivial⟩ trivial
  · skip
    refine PT.sub (σ' := ⟨[(0, .val (a0))], []⟩) ⟨rfl, trivial⟩ trivial ?_
    refine PT.skip ?_
    refine PT.seq ?_
    obtain ⟨hb2, hφ⟩ := G_some hφ
    refine PT.region ?_
    refine Ops.putO rfl rfl (ox_buildSlice_arr (id := 5) s44 z50 Parts.nil rfl (by decide)) (.nil) (.nil) rfl (by kernel_rfl) ?_
    refine Ops.put rfl rfl (ox_move .tmp) (.one rfl) (.nil) rfl ?_
    refine Ops.putK [5] rfl rfl (ox_append a44 .tmp .tmp hb2.1 hb2.2) ((.app (.one rfl) (.one rfl))) (.one rfl) rfl (by kernel_rfl) ?_
    refine Ops.put rfl rfl (ox_assign .tmp) (.one rfl) (.nil) rfl ?_
    refine Ops.nil ?_
    refine PT.sub (σ' := ⟨[(2, _)], [(5, .arr 50 ((([] : List Mk.Write) ++ a0)))]⟩) ⟨rfl, trivial⟩ ⟨rfl, trivial⟩ ?_
    refine PT.ret ?_
    obtain rfl := Option.some.inj hφ
    exact PT.doneX rfl (.tmp rfl .nil) rfl ⟨rfl, trivial⟩ trivial
end Go.Gx
end
section
namespace Go.Gx
open Sp
set_option linter.unusedVariables false
set_option linter.unusedSimpArgs false
set_option maxRecDepth 20000
theorem c_model_Wrong_1 {a0 : Int} {r : Bool} (hφ : model_Wrong_1 a0 = some r) : Fn Go.Proofs.Try.prog 109 [.val a0] (.val r) := by
  unfold model_Wrong_1 at hφ
  refine Fn.mk' Go.Proofs.Try.func109 rfl (by decide) rfl rfl rfl (fun w0 hw0 => ?_)
  refine PT.seq ?_
  refine PT.region ?_
  refine Ops.put rfl rfl (ox_assign .bool) (.nil) (.nil) rfl ?_
  refine Ops.nil ?_
  refine PT.sub (σ' := ⟨[(0, .val (a0))], []⟩) ⟨rfl, trivial⟩ trivial ?_
  refine PT.seq ?_
  refine PT.region ?_
  refine Ops.put rfl rfl (ox_move .tmp) (.one rfl) (.nil) rfl ?_
  refine Ops.put rfl rfl (ox_geq .tmp .int) ((.app (.one rfl) (.nil))) (.nil) rfl ?_
  refine Ops.put rfl rfl (ox_move .tmp) (.one rfl) (.nil) rfl ?_
  refine Ops.guard rfl rfl rfl rfl (.plain .nil) (fun hG => (ox_move .tmp)) ⟨rfl, trivial⟩ (.nil) rfl ?_
  refine Ops.guard rfl rfl rfl rfl (.cond (fun h => h) .nil) (fun hG => (ox_leq .tmp .int)) ⟨rfl, trivial⟩ (.nil) rfl ?_
  refine Ops.put rfl rfl ox_pick_and (⟨rfl, rfl, trivial⟩) (.nil) rfl ?_
  refine Ops.put rfl rfl (ox_assign .tmp) (.one rfl) (.nil) rfl ?_
  refine Ops.nil ?_
  refine PT.sub (σ' := ⟨[(2, .val (((decide ((1 : Int) ≤ a0)) && (decide (a0 ≤ (255 : Int))))))], []⟩) ⟨rfl, trivial⟩ trivial ?_
  refine PT.ret ?_
  obtain rfl := Option.some.inj hφ
  exact PT.done hw0 rfl (.tmp rfl rfl .nil) rfl
theorem c_model_Wrong {a0 : Mk.Call} {r : Int} (hφ : model_Wrong a0 = some r) : Fn Go.Proofs.Try.prog 76 [.val a0] (.val r) := by
  unfold model_Wrong at hφ
  refine Fn.mk' Go.Proofs.Try.func76 rfl (by decide) rfl rfl rfl (fun w0 hw0 => ?_)
  refine PT.seq ?_
  refine PT.region ?_
  refine Ops.putO rfl rfl (ox_box (id := 1) .tmp) (.one rfl) (.nil) rfl (by kernel_rfl) ?_
  refine Ops.put rfl rfl (ox_assign .int) (.nil) (.nil) rfl ?_
  refine Ops.nil ?_
  refine PT.sub (σ' := ⟨[(1, _)], [(1, .var (a0) [])]⟩) ⟨rfl, trivial⟩ ⟨rfl, trivial⟩ ?_
  refine PT.seq ?_
  refine PT.region ?_
  refine Ops.put rfl rfl (ox_assign .func) (.nil) (.nil) rfl ?_
  refine Ops.nil ?_
  refine PT.sub (σ' := ⟨[(1, _), (3, _)], [(1, .var (a0) [])]⟩) ⟨rfl, rfl, trivial⟩ ⟨rfl, trivial⟩ ?_
  refine PT.seq ?_
  refine PT.block ?_
  refine PT.seq ?_
  refine PT.region ?_
  refine Ops.put rfl rfl (ox_fieldAddr_var Call_Kind f23_0) (.one rfl) (.nil) rfl ?_
  refine Ops.put rfl rfl (ox_load_fld t3) (.one rfl) (.one rfl) rfl ?_
  refine Ops.put rfl rfl (ox_lss .tmp .int) ((.app (.one rfl) (.nil))) (.nil) rfl ?_
  refine Ops.put rfl rfl (ox_move .tmp) (.one rfl) (.nil) rfl ?_
  refine Ops.guard rfl rfl rfl rfl (.plain .nil) (fun hG => (ox_fieldAddr_var Call_Kind f23_0)) ⟨rfl, trivial⟩ (.nil) rfl ?_
  refine Ops.guard rfl rfl rfl rfl (.cond (fun h => h) .nil) (fun hG => (ox_load_fld t3)) ⟨rfl, trivial⟩ (.one rfl) rfl ?_
  refine Ops.guard rfl rfl rfl rfl (.cond (fun h => h) .nil) (fun hG => (ox_gtr .tmp .int)) ⟨rfl, trivial⟩ (.nil) rfl ?_
  refine Ops.put rfl rfl ox_pick_or (⟨rfl, rfl, trivial⟩) (.nil) rfl ?_
  refine Ops.put rfl rfl (ox_assign .tmp) (.one rfl) (.nil) rfl ?_
  refine Ops.nil ?_
  refine PT.sub (σ' := ⟨[(1, _), (3, _), (4, .val (((decide (a0.Kind < (1 : Int))) || (decide ((6 : Int) < a0.Kind)))))], [(1, .var (a0) [])]⟩) ⟨rfl, rfl, rfl, trivial⟩ ⟨rfl, trivial⟩ ?_
  refine PT.cond _ rfl (fun hc1 => ?_) (fun hc1 => ?_)
  · replace hφ := if_then hφ hc1
    refine PT.sub (σ' := ⟨[], []⟩) trivial trivial ?_
    refine PT.seq ?_
    refine PT.region ?_
    refine Ops.put rfl rfl (ox_assign .int) (.nil) (.nil) rfl ?_
    refine Ops.nil ?_
    refine PT.sub (σ' := ⟨[(2, .val ((1 : Int)))], []⟩) ⟨rfl, trivial⟩ trivial ?_
    refine PT.ret ?_
    obtain rfl := Option.some.inj hφ
    exact PT.done hw0 rfl (.tmp rfl rfl .nil) rfl
  · replace hφ := if_else hφ hc1
    refine PT.sub (σ' := ⟨[(1, _), (3, _)], [(1, .var (a0) [])]⟩) ⟨rfl, rfl, trivial⟩ ⟨rfl, trivial⟩ ?_
    obtain ⟨k2, hk2, hφ⟩ := J_some hφ
    refine PT.cut (ι := Bool × Mk.Call) (fun p => ⟨[(1, .ptr 1 (Lens.id (α := Mk.Call))), (13, .val (p.1))], [(1, .var (p.2) [])]⟩) (fun p => k2 (p.1) (p.2) = some r) ?_ ?_
    · skip
      refine PT.seq ?_
      obtain ⟨v3, hv3, hφ⟩ := B_some hφ
      refine PT.draw hMixed (
          Segs.cons (Step.put rfl rfl (ox_fieldAddr_var Call_Kind f23_0)) ⟨.one rfl, .nil⟩ (by kernel_rfl) rfl <|
          Segs.cons (Step.put rfl rfl (ox_load_fld t3)) ⟨.one rfl, .one rfl⟩ (by kernel_rfl) rfl <|
          Segs.cons (Step.put rfl rfl (ox_neq .tmp .int)) ⟨(.app (.one rfl) (.nil)), .nil⟩ (by kernel_rfl) rfl <|
          Segs.cons (Step.put rfl rfl (ox_move .tmp)) ⟨.one rfl, .nil⟩ (by kernel_rfl) rfl <|
          Segs.cons (Step.put rfl rfl (ox_fieldAddr_var Call_Name f23_1)) ⟨.one rfl, .nil⟩ (by kernel_rfl) rfl <|
          Segs.cons (Step.put rfl rfl (ox_load_fld t3)) ⟨.one rfl, .one rfl⟩ (by kernel_rfl) rfl <|
          Segs.cons (Step.put rfl rfl (ox_callv (c_model_Wrong_1 hv3) (.cons .tmp .nil))) ⟨(.cons rfl ((.app (.one rfl) .nil))), .nil⟩ (by kernel_rfl) rfl <|
          Segs.cons (Step.put rfl rfl (ox_neqB e4 .tmp .tmp)) ⟨(.app (.one rfl) (.one rfl)), .nil⟩ (by kernel_rfl) rfl <|
          Segs.cons (Step.put rfl rfl (ox_move .tmp)) ⟨.one rfl, .nil⟩ (by kernel_rfl) rfl <|
          Segs.cons (Step.guard rfl rfl rfl Grd.plain _ (by first | exact Iff.rfl | simp) (.plain .nil) (fun hG => (ox_fieldAddr_var Call_Kind f23_0))) ⟨(.cons rfl ⟨rfl, trivial⟩), .nil⟩ (by kernel_rfl) rfl <|
          Segs.cons (Step.guard rfl rfl rfl Grd.plain _ (by first | exact Iff.rfl | simp) (.cond (fun h => h) .nil) (fun hG => (ox_load_fld t3))) ⟨(.cons rfl ⟨rfl, trivial⟩), .one rfl⟩ (by kernel_rfl) rfl <|
          Segs.cons (Step.guard rfl rfl rfl Grd.plain _ (by first | exact Iff.rfl | simp) (.cond (fun h => h) .nil) (fun hG => (ox_eql .tmp .int))) ⟨(.cons rfl ⟨rfl, trivial⟩), .nil⟩ (by kernel_rfl) rfl <|
          Segs.cons (Step.guard rfl rfl rfl Grd.plain _ (by first | exact Iff.rfl | simp) (.cond (fun h => h) .nil) (fun hG => (ox_move .tmp))) ⟨(.cons rfl ⟨rfl, trivial⟩), .nil⟩ (by kernel_rfl) rfl <|
          Segs.cons (Step.guard rfl rfl rfl Grd.cond _ (by first | exact Iff.rfl | simp) (.plain .nil) (fun hG => (ox_fieldAddr_var Call_Name f23_1))) ⟨(.cons rfl ⟨rfl, trivial⟩), .nil⟩ (by kernel_rfl) rfl <|
          Segs.cons (Step.guard rfl rfl rfl Grd.cond _ (by first | exact Iff.rfl | simp) (.cond (fun h => h) .nil) (fun hG => (ox_load_fld t3))) ⟨(.cons rfl ⟨rfl, trivial⟩), .one rfl⟩ (by kernel_rfl) rfl <|
          Segs.cons (Step.guard rfl rfl rfl Grd.cond _ (by first | exact Iff.rfl | simp) (.cond (fun h => h) .nil) (fun hG => (ox_neq .tmp .int))) ⟨(.cons rfl ⟨rfl, trivial⟩), .nil⟩ (by kernel_rfl) rfl <|
          Segs.cons (Step.guard rfl rfl rfl Grd.plain _ (by first | exact Iff.rfl | simp) (.cond (fun h => h) (.part (fun h => h) .nil)) (fun hG => ox_pick_and)) ⟨(.cons rfl ⟨rfl, rfl, trivial⟩), .nil⟩ (by kernel_rfl) rfl <|
          Segs.cons (Step.put rfl rfl ox_pick_or) ⟨⟨rfl, rfl, trivial⟩, .nil⟩ (by kernel_rfl) rfl <|
          Segs.cons (Step.put rfl rfl (ox_assign .tmp)) ⟨.one rfl, .nil⟩ (by kernel_rfl) rfl <|
          Segs.nil) _ [[], [0], [0, 1], [], [], [4], [3, 4, 5], [0, 1, 2, 3, 4, 5, 6], [0, 1, 2, 3, 4, 5, 6, 7], [0, 1, 2, 3, 4, 5, 6, 7, 8], [0, 1, 2, 3, 4, 5, 6, 7, 8, 9], [0, 1, 2, 3, 4, 5, 6, 7, 8, 9, 10], [0, 1, 2, 3, 4, 5, 6, 7, 8, 9, 10, 11], [0, 1, 2, 3, 4, 5, 6, 7, 8, 9, 10, 11, 12], [0, 1, 2, 3, 4, 5, 6, 7, 8, 9, 10, 11, 12, 13], [0, 1, 2, 3, 4, 5, 6, 7, 8, 9, 10, 11, 12, 13, 14], [0, 1, 2, 3, 4, 5, 6, 7, 8, 9, 10, 11, 12, 13, 14, 15], [0, 1, 2, 3, 4, 5, 6, 7, 8, 9, 10, 11, 12, 13, 14, 15, 16], [0, 1, 2, 3, 4, 5, 6, 7, 8, 9, 10, 11, 12, 13, 14, 15, 16, 17]] rfl (by kernel_rfl) (by kernel_rfl) ?_
      refine PT.sub (σ' := ⟨[(1, _), (3, _), (13, .val (((!decide ((!decide (a0.Kind = (5 : Int))) = v3)) || ((decide (a0.Kind = (5 : Int))) && (!decide (a0.Name = (0 : Int)))))))], [(1, .var (a0) [])]⟩) ⟨rfl, rfl, rfl, trivial⟩ ⟨rfl, trivial⟩ ?_
      refine PT.cond _ rfl (fun hc4 => ?_) (fun hc4 => ?_)
      · replace hφ := if_then hφ hc4
        refine PT.sub (σ' := ⟨[(1, _), (13, .val (((!decide ((!decide (a0.Kind = (5 : Int))) = v3)) || ((decide (a0.Kind = (5 : Int))) && (!decide (a0.Name = (0 : Int)))))))], [(1, .var (a0) [])]⟩) ⟨rfl, rfl, trivial⟩ ⟨rfl, trivial⟩ ?_
        refine PT.skip ?_
        exact PT.meet (((!decide ((!decide (a0.Kind = (5 : Int))) = v3)) || ((decide (a0.Kind = (5 : Int))) && (!decide (a0.Name = (0 : Int))))), a0) hφ ⟨rfl, rfl, trivial⟩ ⟨rfl, trivial⟩
      · replace hφ := if_else hφ hc4
        refine PT.sub (σ' := ⟨[(1, _), (3, _)], [(1, .var (a0) [])]⟩) ⟨rfl, rfl, trivial⟩ ⟨rfl, trivial⟩ ?_
        obtain ⟨v5, hv5, hφ⟩ := B_some hφ
        refine PT.draw hMixed (
            Segs.cons (Step.put rfl rfl (ox_fieldAddr_var Call_Kind f23_0)) ⟨.one rfl, .nil⟩ (by kernel_rfl) rfl <|
            Segs.cons (Step.put rfl rfl (ox_load_fld t3)) ⟨.one rfl, .one rfl⟩ (by kernel_rfl) rfl <|
            Segs.cons (Step.put rfl rfl (ox_eql .tmp .int)) ⟨(.app (.one rfl) (.nil)), .nil⟩ (by kernel_rfl) rfl <|
            Segs.cons (Step.put rfl rfl (ox_move .tmp)) ⟨.one rfl, .nil⟩ (by kernel_rfl) rfl <|
            Segs.cons (Step.put rfl rfl (ox_fieldAddr_var Call_Other f23_2)) ⟨.one rfl, .nil⟩ (by kernel_rfl) rfl <|
            Segs.cons (Step.put rfl rfl (ox_load_fld t3)) ⟨.one rfl, .one rfl⟩ (by kernel_rfl) rfl <|
            Segs.cons (Step.put rfl rfl (ox_callv (c_model_Wrong_1 hv5) (.cons .tmp .nil))) ⟨(.cons rfl ((.app (.one rfl) .nil))), .nil⟩ (by kernel_rfl) rfl <|
            Segs.cons (Step.put rfl rfl (ox_neqB e4 .tmp .tmp)) ⟨(.app (.one rfl) (.one rfl)), .nil⟩ (by kernel_rfl) rfl <|
            Segs.cons (Step.put rfl rfl (ox_move .tmp)) ⟨.one rfl, .nil⟩ (by kernel_rfl) rfl <|
            Segs.cons (Step.guard rfl rfl rfl Grd.plain _ (by first | exact Iff.rfl | simp) (.plain .nil) (fun hG => (ox_fieldAddr_var Call_Kind f23_0))) ⟨(.cons rfl ⟨rfl, trivial⟩), .nil⟩ (by kernel_rfl) rfl <|
            Segs.cons (Step.guard rfl rfl rfl Grd.plain _ (by first | exact Iff.rfl | simp) (.cond (fun h => h) .nil) (fun hG => (ox_load_fld t3))) ⟨(.cons rfl ⟨rfl, trivial⟩), .one rfl⟩ (by kernel_rfl) rfl <|
            Segs.cons (Step.guard rfl rfl rfl Grd.plain _ (by first | exact Iff.rfl | simp) (.cond (fun h => h) .nil) (fun hG => (ox_neq .tmp .int))) ⟨(.cons rfl ⟨rfl, trivial⟩), .nil⟩ (by kernel_rfl) rfl <|
            Segs.cons (Step.guard rfl rfl rfl Grd.plain _ (by first | exact Iff.rfl | simp) (.cond (fun h => h) .nil) (fun hG => (ox_move .tmp))) ⟨(.cons rfl ⟨rfl, trivial⟩), .nil⟩ (by kernel_rfl) rfl <|
            Segs.cons (Step.guard rfl rfl rfl Grd.cond _ (by first | exact Iff.rfl | simp) (.plain .nil) (fun hG => (ox_fieldAddr_var Call_Other f23_2))) ⟨(.cons rfl ⟨rfl, trivial⟩), .nil⟩ (by kernel_rfl) rfl <|
            Segs.cons (Step.guard rfl rfl rfl Grd.cond _ (by first | exact Iff.rfl | simp) (.cond (fun h => h) .nil) (fun hG => (ox_load_fld t3))) ⟨(.cons rfl ⟨rfl, trivial⟩), .one rfl⟩ (by kernel_rfl) rfl <|
            Segs.cons (Step.guard rfl rfl rfl Grd.cond _ (by first | exact Iff.rfl | simp) (.cond (fun h => h) .nil) (fun hG => (ox_neq .tmp .int))) ⟨(.cons rfl ⟨rfl, trivial⟩), .nil⟩ (by kernel_rfl) rfl <|
            Segs.cons (Step.guard rfl rfl rfl Grd.plain _ (by first | exact Iff.rfl | simp) (.cond (fun h => h) (.part (fun h => h) .nil)) (fun hG => ox_pick_and)) ⟨(.cons rfl ⟨rfl, rfl, trivial⟩), .nil⟩ (by kernel_rfl) rfl <|
            Segs.cons (Step.put rfl rfl ox_pick_or) ⟨⟨rfl, rfl, trivial⟩, .nil⟩ (by kernel_rfl) rfl <|
            Segs.cons (Step.put rfl rfl (ox_assign .tmp)) ⟨.one rfl, .nil⟩ (by kernel_rfl) rfl <|
            Segs.nil) _ [[], [0], [0, 1], [], [], [4], [3, 4, 5], [0, 1, 2, 3, 4, 5, 6], [0, 1, 2, 3, 4, 5, 6, 7], [0, 1, 2, 3, 4, 5, 6, 7, 8], [0, 1, 2, 3, 4, 5, 6, 7, 8, 9], [0, 1, 2, 3, 4, 5, 6, 7, 8, 9, 10], [0, 1, 2, 3, 4, 5, 6, 7, 8, 9, 10, 11], [0, 1, 2, 3, 4, 5, 6, 7, 8, 9, 10, 11, 12], [0, 1, 2, 3, 4, 5, 6, 7, 8, 9, 10, 11, 12, 13], [0, 1, 2, 3, 4, 5, 6, 7, 8, 9, 10, 11, 12, 13, 14], [0, 1, 2, 3, 4, 5, 6, 7, 8, 9, 10, 11, 12, 13, 14, 15], [0, 1, 2, 3, 4, 5, 6, 7, 8, 9, 10, 11, 12, 13, 14, 15, 16], [0, 1, 2, 3, 4, 5, 6, 7, 8, 9, 10, 11, 12, 13, 14, 15, 16, 17]] rfl (by kernel_rfl) (by kernel_rfl) ?_
        refine PT.sub (σ' := ⟨[(1, _), (13, .val (((!decide ((decide (a0.Kind = (6 : Int))) = v5)) || ((!decide (a0.Kind = (6 : Int))) && (!decide (a0.Other = (0 : Int)))))))], [(1, .var (a0) [])]⟩) ⟨rfl, rfl, trivial⟩ ⟨rfl, trivial⟩ ?_
        exact PT.meet (((!decide ((decide (a0.Kind = (6 : Int))) = v5)) || ((!decide (a0.Kind = (6 : Int))) && (!decide (a0.Other = (0 : Int))))), a0) hφ ⟨rfl, rfl, trivial⟩ ⟨rfl, trivial⟩
    · rintro ⟨x13_k2, y1_k2⟩ hφ
      subst hk2
      refine PT.sub (σ' := ⟨[(1, .ptr 1 (Lens.id (α := Mk.Call))), (13, .val (x13_k2))], [(1, .var (y1_k2) [])]⟩) ⟨rfl, rfl, trivial⟩ ⟨rfl, trivial⟩ ?_
      refine PT.cond _ rfl (fun hc6 => ?_) (fun hc6 => ?_)
      · replace hφ := if_then hφ hc6
        refine PT.sub (σ' := ⟨[], []⟩) trivial trivial ?_
        refine PT.seq ?_
        refine PT.region ?_
        refine Ops.put rfl rfl (ox_assign .int) (.nil) (.nil) rfl ?_
        refine Ops.nil ?_
        refine PT.sub (σ' := ⟨[(2, .val ((7 : Int)))], []⟩) ⟨rfl, trivial⟩ trivial ?_
        refine PT.ret ?_
        obtain rfl := Option.some.inj hφ
        exact PT.done hw0 rfl (.tmp rfl rfl .nil) rfl
      · replace hφ := if_else hφ hc6
        refine PT.sub (σ' := ⟨[(1, _)], [(1, .var (y1_k2) [])]⟩) ⟨rfl, trivial⟩ ⟨rfl, trivial⟩ ?_
        refine PT.seq ?_
        refine PT.region ?_
        refine Ops.put rfl rfl (ox_fieldAddr_var Call_N f23_3) (.one rfl) (.nil) rfl ?_
        refine Ops.put rfl rfl (ox_load_fld t3) (.one rfl) (.one rfl) rfl ?_
        refine Ops.put rfl rfl (ox_lss .tmp .int) ((.app (.one rfl) (.nil))) (.nil) rfl ?_
        refine Ops.put rfl rfl (ox_move .tmp) (.one rfl) (.nil) rfl ?_
        refine Ops.guard rfl rfl rfl rfl (.plain .nil) (fun hG => (ox_fieldAddr_var Call_N f23_3)) ⟨rfl, trivial⟩ (.nil) rfl ?_
        refine Ops.guard rfl rfl rfl rfl (.cond (fun h => h) .nil) (fun hG => (ox_load_fld t3)) ⟨rfl, trivial⟩ (.one rfl) rfl ?_
        refine Ops.guard rfl rfl rfl rfl (.cond (fun h => h) .nil) (fun hG => (ox_gtr .tmp .int)) ⟨rfl, trivial⟩ (.nil) rfl ?_
        refine Ops.put rfl rfl ox_pick_or (⟨rfl, rfl, trivial⟩) (.nil) rfl ?_
        refine Ops.put rfl rfl (ox_move .tmp) (.one rfl) (.nil) rfl ?_
        refine Ops.guard rfl rfl rfl rfl (.plain .nil) (fun hG => (ox_fieldAddr_var Call_Kind f23_0)) ⟨rfl, trivial⟩ (.nil) rfl ?_
        refine Ops.guard rfl rfl rfl rfl (.cond (fun h => h) .nil) (fun hG => (ox_load_fld t3)) ⟨rfl, trivial⟩ (.one rfl) rfl ?_
        refine Ops.guard rfl rfl rfl rfl (.cond (fun h => h) .nil) (fun hG => (ox_neq .tmp .int)) ⟨rfl, trivial⟩ (.nil) rfl ?_
        refine Ops.guard rfl rfl rfl rfl (.cond (fun h => h) .nil) (fun hG => (ox_move .tmp)) ⟨rfl, trivial⟩ (.nil) rfl ?_
        refine Ops.guard2 rfl rfl rfl rfl (.plain .nil) (fun hG => (ox_fieldAddr_var Call_Kind f23_0)) ⟨rfl, trivial⟩ (.nil) rfl ?_
        refine Ops.guard2 rfl rfl rfl rfl (.cond (fun h => h) .nil) (fun hG => (ox_load_fld t3)) ⟨rfl, trivial⟩ (.one rfl) rfl ?_
        refine Ops.guard2 rfl rfl rfl rfl (.cond (fun h => h) .nil) (fun hG => (ox_neq .tmp .int)) ⟨rfl, trivial⟩ (.nil) rfl ?_
        refine Ops.guard rfl rfl rfl rfl (.cond (fun h => h) (.part (fun h => h) .nil)) (fun hG => ox_pick_and) ⟨rfl, rfl, trivial⟩ (.nil) rfl ?_
        refine Ops.guard rfl rfl rfl rfl (.cond (fun h => h) .nil) (fun hG => (ox_move .tmp)) ⟨rfl, trivial⟩ (.nil) rfl ?_
        refine Ops.guard2 rfl rfl rfl rfl (.plain .nil) (fun hG => (ox_fieldAddr_var Call_N f23_3)) ⟨rfl, trivial⟩ (.nil) rfl ?_
        refine Ops.guard2 rfl rfl rfl rfl (.cond (fun h => h) .nil) (fun hG => (ox_load_fld t3)) ⟨rfl, trivial⟩ (.one rfl) rfl ?_
        refine Ops.guard2 rfl rfl rfl rfl (.cond (fun h => h) .nil) (fun hG => (ox_neq .tmp .int)) ⟨rfl, trivial⟩ (.nil) rfl ?_
        refine Ops.guard rfl rfl rfl rfl (.cond (fun h => h) (.part (fun h => h) .nil)) (fun hG => ox_pick_and) ⟨rfl, rfl, trivial⟩ (.nil) rfl ?_
        refine Ops.put rfl rfl ox_pick_or (⟨rfl, rfl, trivial⟩) (.nil) rfl ?_
        refine Ops.put rfl rfl (ox_assign .tmp) (.one rfl) (.nil) rfl ?_
        refine Ops.nil ?_
        refine PT.sub (σ' := ⟨[(50, .val ((((decide (y1_k2.N < (-1073741824 : Int))) || (decide ((1073741824 : Int) < y1_k2.N))) || (((!decide (y1_k2.Kind = (1 : Int))) && (!decide (y1_k2.Kind = (4 : Int)))) && (!decide (y1_k2.N = (0 : Int)))))))], []⟩) ⟨rfl, trivial⟩ trivial ?_
        refine PT.cond _ rfl (fun hc7 => ?_) (fun hc7 => ?_)
        · replace hφ := if_then hφ hc7
          refine PT.sub (σ' := ⟨[], []⟩) trivial trivial ?_
          refine PT.seq ?_
          refine PT.region ?_
          refine Ops.put rfl rfl (ox_assign .int) (.nil) (.nil) rfl ?_
          refine Ops.nil ?_
          refine PT.sub (σ' := ⟨[(2, .val ((3 : Int)))], []⟩) ⟨rfl, trivial⟩ trivial ?_
          refine PT.ret ?_
          obtain rfl := Option.some.inj hφ
          exact PT.done hw0 rfl (.tmp rfl rfl .nil) rfl
        · replace hφ := if_else hφ hc7
          refine PT.sub (σ' := ⟨[], []⟩) trivial trivial ?_
          refine PT.skip ?_
          refine PT.seq ?_
          refine PT.region ?_
          refine Ops.put rfl rfl (ox_assign .int) (.nil) (.nil) rfl ?_
          refine Ops.nil ?_
          refine PT.sub (σ' := ⟨[(2, .val ((0 : Int)))], []⟩) ⟨rfl, trivial⟩ trivial ?_
          refine PT.ret ?_
          obtain rfl := Option.some.inj hφ
          exact PT.done hw0 rfl (.tmp rfl rfl .nil) rfl
end Go.Gx
end
section
namespace Go.Gx
open Sp
set_option linter.unusedVariables false
set_option linter.unusedSimpArgs false
set_option maxRecDepth 20000
theorem c_mkref1_All {a0 : List Mk.Request} {r : ((List Mk.Write) × (List Mk.Reply))} (hφ : mkref1_All a0 = some r) : Fn Go.Proofs.Try.prog 84 [.val a0] (.tup [.val r.1, .val r.2]) := by
  unfold mkref1_All at hφ
  refine Fn.mk' Go.Proofs.Try.func84 rfl (by decide) rfl rfl rfl (fun w0 hw0 => ?_)
  refine PT.seq ?_
  refine PT.region ?_
  refine Ops.put rfl rfl (ox_assign .nilS) (.nil) (.nil) rfl ?_
  refine Ops.put rfl rfl (ox_assign .nilS) (.nil) (.nil) rfl ?_
  refine Ops.nil ?_
  refine PT.sub (σ' := ⟨[(0, .val (a0))], []⟩) ⟨rfl, trivial⟩ trivial ?_
  refine PT.seq ?_
  refine PT.region ?_
  refine Ops.put rfl rfl (ox_assign .nilS) (.nil) (.nil) rfl ?_
  refine Ops.nil ?_
  refine PT.sub (σ' := ⟨[(0, .val (a0)), (4, .nilS)], []⟩) ⟨rfl, rfl, trivial⟩ trivial ?_
  refine PT.seq ?_
  refine PT.region ?_
  refine Ops.put rfl rfl (ox_assign .nilS) (.nil) (.nil) rfl ?_
  refine Ops.nil ?_
  refine PT.sub (σ' := ⟨[(0, .val (a0)), (4, .nilS), (5, .nilS)], []⟩) ⟨rfl, rfl, rfl, trivial⟩ trivial ?_
  obtain ⟨k1, hk1, hφ⟩ := J_some hφ
  refine PT.cut (ι := (List Mk.Write) × (List Mk.Reply)) (fun p => ⟨[(4, .val (p.1)), (5, .sl 1005)], [(1005, .arr 28 (p.2))]⟩) (fun p => k1 (p.1) (p.2) = some r) ?_ ?_
  · skip
    refine PT.seq ?_
    refine PT.region ?_
    refine Ops.put rfl rfl (ox_move .tmp) (.one rfl) (.nil) rfl ?_
    refine Ops.put rfl rfl (ox_len s46 .tmp) (.one rfl) (.nil) rfl ?_
    refine Ops.put rfl rfl (ox_move .int) (.nil) (.nil) rfl ?_
    refine Ops.nil ?_
    refine PT.sub (σ' := ⟨[(4, .nilS), (5, .nilS), (10, .val (a0)), (11, .val ((a0.length : Int))), (12, .val ((0 : Int)))], []⟩) ⟨rfl, rfl, rfl, rfl, rfl, trivial⟩ trivial ?_
    refine PT.block ?_
    refine PT.asNil 4 (Mk.Write) rfl ?_
    refine PT.nilArr 1005 5 28 (Mk.Reply) rfl (by kernel_rfl) ?_
    refine PT.loop (ι := Nat × (List Mk.Write) × (List Mk.Request) × Int × Int × (List Mk.Reply)) (fun p => ⟨[(4, .val (p.2.1)), (5, .sl 1005), (10, .val (p.2.2.1)), (11, .val (p.2.2.2.1)), (12, .val (p.2.2.2.2.1))], [(1005, .arr 28 (p.2.2.2.2.2))]⟩) (fun p => mkref1_All_l1 k1 p.1 (p.2.1) (p.2.2.1) (p.2.2.2.1) (p.2.2.2.2.1) (p.2.2.2.2.2) = some r) (fun p => p.1) (((a0.length : Int) - (0 : Int)).toNat + 1, ([] : List Mk.Write), a0, (a0.length : Int), (0 : Int), ([] : List Mk.Reply)) hφ ⟨rfl, rfl, rfl, rfl, rfl, trivial⟩ ⟨rfl, trivial⟩ ?_
    rintro ⟨m2, x4_m2, x10_m2, x11_m2, x12_m2, y1005_m2⟩ (hφ : mkref1_All_l1 k1 m2 x4_m2 x10_m2 x11_m2 x12_m2 y1005_m2 = some r)
    obtain _ | m2 := m2
    · exact (none_no hφ).elim
    rw [mkref1_All_l1.eq_2] at hφ
    refine PT.sub (σ' := ⟨[(4, .val (x4_m2)), (5, .sl 1005), (10, .val (x10_m2)), (11, .val (x11_m2)), (12, .val (x12_m2))], [(1005, .arr 28 (y1005_m2))]⟩) ⟨rfl, rfl, rfl, rfl, rfl, trivial⟩ ⟨rfl, trivial⟩ ?_
    refine PT.seq ?_
    refine PT.region ?_
    refine Ops.put rfl rfl (ox_lss .tmp .tmp) ((.app (.one rfl) (.one rfl))) (.nil) rfl ?_
    refine Ops.nil ?_
    refine PT.sub (σ' := ⟨[(4, .val (x4_m2)), (5, _), (10, .val (x10_m2)), (11, .val (x11_m2)), (12, .val (x12_m2)), (13, .val ((decide (x12_m2 < x11_m2))))], [(1005, .arr 28 (y1005_m2))]⟩) ⟨rfl, rfl, rfl, rfl, rfl, rfl, trivial⟩ ⟨rfl, trivial⟩ ?_
    refine PT.seq ?_
    refine PT.cond _ rfl (fun hc3 => ?_) (fun hc3 => ?_)
    · replace hφ := if_then hφ hc3
      refine PT.sub (σ' := ⟨[(4, .val (x4_m2)), (5, _), (10, .val (x10_m2)), (11, .val (x11_m2)), (12, .val (x12_m2))], [(1005, .arr 28 (y1005_m2))]⟩) ⟨rfl, rfl, rfl, rfl, rfl, trivial⟩ ⟨rfl, trivial⟩ ?_
      refine PT.skip ?_
      refine PT.seq ?_
      refine PT.block ?_
      refine PT.seq ?_
      obtain ⟨hb4, hφ⟩ := G_some hφ
      refine PT.region ?_
      refine Ops.put rfl rfl (ox_ix s46 .tmp .tmp hb4.1 hb4.2) ((.app (.one rfl) (.one rfl))) (.nil) rfl ?_
      refine Ops.put rfl rfl (ox_load_elem t25) (.one rfl) (.nil) rfl ?_
      refine Ops.putO rfl rfl (ox_alloc (id := 7) z25) (.nil) (.nil) rfl (by kernel_rfl) ?_
      refine Ops.mute rfl rfl (ox_store_var t25 .tmp) ((.cons rfl (.one rfl))) (.one rfl) ?_
      refine Ops.nil ?_
      refine PT.sub (σ' := ⟨[(4, .val (x4_m2)), (5, _), (7, _), (10, .val (x10_m2)), (11, .val (x11_m2)), (12, .val (x12_m2))], [(7, .var ((ix x10_m2 x12_m2)) []), (1005, .arr 28 (y1005_m2))]⟩) ⟨rfl, rfl, rfl, rfl, rfl, rfl, trivial⟩ ⟨rfl, rfl, trivial⟩ ?_
      refine PT.seq ?_
      obtain ⟨v5, hv5, hφ⟩ := B_some hφ
      refine PT.region ?_
      refine Ops.put rfl rfl (ox_move .tmp) (.one rfl) (.nil) rfl ?_
      refine Ops.put rfl rfl (ox_fieldAddr_var Request_Call f25_2) (.one rfl) (.nil) rfl ?_
      refine Ops.put rfl rfl (ox_load_fld t23) (.one rfl) (.one rfl) rfl ?_
      refine Ops.put rfl rfl (ox_call (c_mkref1_Do hv5) (.cons .tmp (.cons .tmp .nil))) ((.app (.one rfl) (.app (.one rfl) .nil))) (.nil) rfl ?_
      refine Ops.put rfl rfl (ox_move .tmp) (.one rfl) (.nil) rfl ?_
      refine Ops.put rfl rfl (ox_extract rfl) (.one rfl) (.nil) rfl ?_
      refine Ops.put rfl rfl (ox_extract rfl) (.one rfl) (.nil) rfl ?_
      refine Ops.putO rfl rfl (ox_alloc (id := 9) z28) (.nil) (.nil) rfl (by kernel_rfl) ?_
      refine Ops.put rfl rfl (ox_assign .tmp) (.one rfl) (.nil) rfl ?_
      refine Ops.mute rfl rfl (ox_store_var t28 .tmp) ((.cons rfl (.one rfl))) (.one rfl) ?_
      refine Ops.nil ?_
      refine PT.sub (σ' := ⟨[(5, _), (8, .val (v5.1)), (9, _), (10, .val (x10_m2)), (11, .val (x11_m2)), (12, .val (x12_m2))], [(9, .var (v5.2) []), (1005, .arr 28 (y1005_m2))]⟩) ⟨rfl, rfl, rfl, rfl, rfl, rfl, trivial⟩ ⟨rfl, rfl, trivial⟩ ?_
      refine PT.seq ?_
      refine PT.region ?_
      refine Ops.put rfl rfl (ox_move .tmp) (.one rfl) (.nil) rfl ?_
      refine Ops.put rfl rfl (ox_assign .tmp) (.one rfl) (.nil) rfl ?_
      refine Ops.nil ?_
      refine PT.sub (σ' := ⟨[(4, .val (v5.1)), (5, _), (9, _), (10, .val (x10_m2)), (11, .val (x11_m2)), (12, .val (x12_m2))], [(9, .var (v5.2) []), (1005, .arr 28 (y1005_m2))]⟩) ⟨rfl, rfl, rfl, rfl, rfl, rfl, trivial⟩ ⟨rfl, rfl, trivial⟩ ?_
      obtain ⟨hb6, hφ⟩ := G_some hφ
      refine PT.region ?_
      refine Ops.put rfl rfl (ox_move .tmp) (.one rfl) (.nil) rfl ?_
      refine Ops.put rfl rfl (ox_load_var t28) (.one rfl) (.one rfl) rfl ?_
      refine Ops.put rfl rfl (ox_buildSlice_val s76 z28 (.cons .tmp Parts.nil) rfl (by decide)) ((.app (.one rfl) .nil)) (.nil) rfl ?_
      refine Ops.putK [5, 24] rfl rfl (ox_append a76 .tmp .tmp hb6.1 hb6.2) ((.app (.one rfl) (.one rfl))) (.one rfl) rfl (by kernel_rfl) ?_
      refine Ops.put rfl rfl (ox_assign .tmp) (.one rfl) (.nil) rfl ?_
      refine Ops.nil ?_
      refine PT.sub (σ' := ⟨[(4, .val (v5.1)), (5, _), (10, .val (x10_m2)), (11, .val (x11_m2)), (12, .val (x12_m2))], [(1005, .arr 28 ((y1005_m2 ++ ([v5.2] : List Mk.Reply))))]⟩) ⟨rfl, rfl, rfl, rfl, rfl, trivial⟩ ⟨rfl, trivial⟩ ?_
      obtain ⟨hb7, hφ⟩ := G_some hφ
      refine PT.region ?_
      refine Ops.put rfl rfl (ox_add .tmp .int hb7) ((.app (.one rfl) (.nil))) (.nil) rfl ?_
      refine Ops.put rfl rfl (ox_move .tmp) (.one rfl) (.nil) rfl ?_
      refine Ops.nil ?_
      refine PT.sub (σ' := ⟨[(4, .val (v5.1)), (5, _), (10, .val (x10_m2)), (11, .val (x11_m2)), (12, .val ((x12_m2 + (1 : Int))))], [(1005, .arr 28 ((y1005_m2 ++ ([v5.2] : List Mk.Reply))))]⟩) ⟨rfl, rfl, rfl, rfl, rfl, trivial⟩ ⟨rfl, trivial⟩ ?_
      exact PT.next (m2, v5.1, x10_m2, x11_m2, (x12_m2 + (1 : Int)), (y1005_m2 ++ ([v5.2] : List Mk.Reply))) hφ (Nat.lt_succ_self _) ⟨rfl, rfl, rfl, rfl, rfl, trivial⟩ ⟨rfl, trivial⟩
    · replace hφ := if_else hφ hc3
      refine PT.sub (σ' := ⟨[(4, .val (x4_m2)), (5, _)], [(1005, .arr 28 (y1005_m2))]⟩) ⟨rfl, rfl, trivial⟩ ⟨rfl, trivial⟩ ?_
      refine PT.exit ?_
      exact PT.meet (x4_m2, y1005_m2) hφ ⟨rfl, rfl, trivial⟩ ⟨rfl, trivial⟩
  · rintro ⟨x4_k1, y1005_k1⟩ hφ
    subst hk1
    refine PT.sub (σ' := ⟨[(4, .val (x4_k1)), (5, .sl 1005)], [(1005, .arr 28 (y1005_k1))]⟩) ⟨rfl, rfl, trivial⟩ ⟨rfl, trivial⟩ ?_
    refine PT.seq ?_
    refine PT.region ?_
    refine Ops.put rfl rfl (ox_move .tmp) (.one rfl) (.nil) rfl ?_
    refine Ops.put rfl rfl (ox_move .tmp) (.one rfl) (.nil) rfl ?_
    refine Ops.put rfl rfl (ox_assign .tmp) (.one rfl) (.nil) rfl ?_
    refine Ops.put rfl rfl (ox_assign .tmp) (.one rfl) (.nil) rfl ?_
    refine Ops.nil ?_
    refine PT.sub (σ' := ⟨[(2, .val (x4_k1)), (3, _)], [(1005, .arr 28 (y1005_k1))]⟩) ⟨rfl, rfl, trivial⟩ ⟨rfl, trivial⟩ ?_
    refine PT.ret ?_
    refine PT.freeze 1005 [3] rfl ⟨rfl, trivial⟩ ?_
    obtain rfl := Option.some.inj hφ
    exact PT.done hw0 rfl (.tmp rfl rfl (.tmp rfl rfl .nil)) rfl
end Go.Gx
end
section
namespace Go.Gx
open Sp
set_option linter.unusedVariables false
set_option linter.unusedSimpArgs false
set_option maxRecDepth 20000
theorem c_model_entry_1 {a0 : Mk.Write} {a1 : Int} {r : Bool} (hφ : model_entry_1 a0 a1 = some r) : Fn Go.Proofs.Try.prog 121 [.val a0, .elem a1] (.val r) := by
  unfold model_entry_1 at hφ
  refine Fn.mk' Go.Proofs.Try.func121 rfl (by decide) rfl rfl rfl (fun w0 hw0 => ?_)
  refine PT.seq ?_
  refine PT.region ?_
  refine Ops.putO rfl rfl (ox_box (id := 2) .tmp) (.one rfl) (.nil) rfl (by kernel_rfl) ?_
  refine Ops.put rfl rfl (ox_assign .bool) (.nil) (.nil) rfl ?_
  refine Ops.nil ?_
  refine PT.sub (σ' := ⟨[(1, .elem (a1)), (2, _)], [(2, .var (a0) [])]⟩) ⟨rfl, rfl, trivial⟩ ⟨rfl, trivial⟩ ?_
  refine PT.seq ?_
  refine PT.region ?_
  refine Ops.put rfl rfl (ox_fieldAddr_var Write_At f50_0) (.one rfl) (.nil) rfl ?_
  refine Ops.put rfl rfl (ox_load_fld t3) (.one rfl) (.one rfl) rfl ?_
  refine Ops.put rfl rfl (ox_load_elem t3) (.one rfl) (.nil) rfl ?_
  refine Ops.put rfl rfl (ox_eql .tmp .tmp) ((.app (.one rfl) (.one rfl))) (.nil) rfl ?_
  refine Ops.put rfl rfl (ox_assign .tmp) (.one rfl) (.nil) rfl ?_
  refine Ops.nil ?_
  refine PT.sub (σ' := ⟨[(3, .val ((decide (a0.At = a1))))], []⟩) ⟨rfl, trivial⟩ trivial ?_
  refine PT.ret ?_
  obtain rfl := Option.some.inj hφ
  exact PT.done hw0 rfl (.tmp rfl rfl .nil) rfl
theorem c_slices_IndexFunc___api_Write_api_Write__entry {a0 : List Mk.Write} {a2 : Int} {r : Int} (hφ : slices_IndexFunc___api_Write_api_Write__entry a0 a2 = some r) : Fn Go.Proofs.Try.prog 120 [.val a0, .clo 121 [.elem a2]] (.val r) := by
  unfold slices_IndexFunc___api_Write_api_Write__entry at hφ
  refine Fn.mk' Go.Proofs.Try.func120 rfl (by decide) rfl rfl rfl (fun w0 hw0 => ?_)
  refine PT.seq ?_
  refine PT.region ?_
  refine Ops.put rfl rfl (ox_assign .int) (.nil) (.nil) rfl ?_
  refine Ops.nil ?_
  refine PT.sub (σ' := ⟨[(0, .val (a0)), (1, _)], []⟩) ⟨rfl, rfl, trivial⟩ trivial ?_
  obtain ⟨k1, hk1, hφ⟩ := J_some hφ
  refine PT.cut (ι := Unit) (fun p => ⟨[], []⟩) (fun p => k1 () = some r) ?_ ?_
  · skip
    refine PT.seq ?_
    refine PT.region ?_
    refine Ops.put rfl rfl (ox_move .tmp) (.one rfl) (.nil) rfl ?_
    refine Ops.put rfl rfl (ox_len s44 .tmp) (.one rfl) (.nil) rfl ?_
    refine Ops.put rfl rfl (ox_move .int) (.nil) (.nil) rfl ?_
    refine Ops.nil ?_
    refine PT.sub (σ' := ⟨[(0, .val (a0)), (1, _), (7, .val ((a0.length : Int))), (8, .val ((0 : Int)))], []⟩) ⟨rfl, rfl, rfl, rfl, trivial⟩ trivial ?_
    refine PT.block ?_
    refine PT.loop (ι := Nat × (List Mk.Write) × Int × Int) (fun p => ⟨[(0, .val (p.2.1)), (1, .clo 121 [.elem (a2)]), (7, .val (p.2.2.1)), (8, .val (p.2.2.2))], []⟩) (fun p => slices_IndexFunc___api_Write_api_Write__entry_l1 a2 k1 p.1 (p.2.1) (p.2.2.1) (p.2.2.2) = some r) (fun p => p.1) (((a0.length : Int) - (0 : Int)).toNat + 1, a0, (a0.length : Int), (0 : Int)) hφ ⟨rfl, rfl, rfl, rfl, trivial⟩ trivial ?_
    rintro ⟨m2, x0_m2, x7_m2, x8_m2⟩ (hφ : slices_IndexFunc___api_Write_api_Write__entry_l1 a2 k1 m2 x0_m2 x7_m2 x8_m2 = some r)
    obtain _ | m2 := m2
    · exact (none_no hφ).elim
    rw [slices_IndexFunc___api_Write_api_Write__entry_l1.eq_2] at hφ
    refine PT.sub (σ' := ⟨[(0, .val (x0_m2)), (1, .clo 121 [.elem (a2)]), (7, .val (x7_m2)), (8, .val (x8_m2))], []⟩) ⟨rfl, rfl, rfl, rfl, trivial⟩ trivial ?_
    refine PT.seq ?_
    refine PT.region ?_
    refine Ops.put rfl rfl (ox_lss .tmp .tmp) ((.app (.one rfl) (.one rfl))) (.nil) rfl ?_
    refine Ops.nil ?_
    refine PT.sub (σ' := ⟨[(0, .val (x0_m2)), (1, _), (7, .val (x7_m2)), (8, .val (x8_m2)), (9, .val ((decide (x8_m2 < x7_m2))))], []⟩) ⟨rfl, rfl, rfl, rfl, rfl, trivial⟩ trivial ?_
    refine PT.seq ?_
    refine PT.cond _ rfl (fun hc3 => ?_) (fun hc3 => ?_)
    · replace hφ := if_then hφ hc3
      refine PT.sub (σ' := ⟨[(0, .val (x0_m2)), (1, _), (7, .val (x7_m2)), (8, .val (x8_m2))], []⟩) ⟨rfl, rfl, rfl, rfl, trivial⟩ trivial ?_
      refine PT.skip ?_
      refine PT.seq ?_
      refine PT.block ?_
      refine PT.seq ?_
      refine PT.region ?_
      refine Ops.put rfl rfl (ox_move .tmp) (.one rfl) (.nil) rfl ?_
      refine Ops.put rfl rfl (ox_assign .tmp) (.one rfl) (.nil) rfl ?_
      refine Ops.nil ?_
      refine PT.sub (σ' := ⟨[(0, .val (x0_m2)), (1, _), (5, .val (x8_m2)), (7, .val (x7_m2)), (8, .val (x8_m2))], []⟩) ⟨rfl, rfl, rfl, rfl, rfl, trivial⟩ trivial ?_
      refine PT.seq ?_
      obtain ⟨hb4, hφ⟩ := G_some hφ
      obtain ⟨v5, hv5, hφ⟩ := B_some hφ
      refine PT.region ?_
      refine Ops.put rfl rfl (ox_move .tmp) (.one rfl) (.nil) rfl ?_
      refine Ops.put rfl rfl (ox_move .tmp) (.one rfl) (.nil) rfl ?_
      refine Ops.put rfl rfl (ox_move .tmp) (.one rfl) (.nil) rfl ?_
      refine Ops.put rfl rfl (ox_ix s44 .tmp .tmp hb4.1 hb4.2) ((.app (.one rfl) (.one rfl))) (.nil) rfl ?_
      refine Ops.put rfl rfl (ox_load_elem t50) (.one rfl) (.nil) rfl ?_
      refine Ops.put rfl rfl (ox_callv (c_model_entry_1 hv5) (.cons .tmp .nil)) ((.cons rfl ((.app (.one rfl) .nil)))) (.nil) rfl ?_
      refine Ops.nil ?_
      refine PT.sub (σ' := ⟨[(0, .val (x0_m2)), (1, _), (5, .val (x8_m2)), (7, .val (x7_m2)), (8, .val (x8_m2)), (16, .val (v5))], []⟩) ⟨rfl, rfl, rfl, rfl, rfl, rfl, trivial⟩ trivial ?_
      refine PT.cond _ rfl (fun hc6 => ?_) (fun hc6 => ?_)
      · replace hφ := if_then hφ hc6
        refine PT.sub (σ' := ⟨[(5, .val (x8_m2))], []⟩) ⟨rfl, trivial⟩ trivial ?_
        refine PT.seq ?_
        refine PT.region ?_
        refine Ops.put rfl rfl (ox_move .tmp) (.one rfl) (.nil) rfl ?_
        refine Ops.put rfl rfl (ox_assign .tmp) (.one rfl) (.nil) rfl ?_
        refine Ops.nil ?_
        refine PT.sub (σ' := ⟨[(4, .val (x8_m2))], []⟩) ⟨rfl, trivial⟩ trivial ?_
        refine PT.ret ?_
        obtain rfl := Option.some.inj hφ
        exact PT.done hw0 rfl (.tmp rfl rfl .nil) rfl
      · replace hφ := if_else hφ hc6
        refine PT.sub (σ' := ⟨[(0, .val (x0_m2)), (1, _), (7, .val (x7_m2)), (8, .val (x8_m2))], []⟩) ⟨rfl, rfl, rfl, rfl, trivial⟩ trivial ?_
        refine PT.skip ?_
        obtain ⟨hb7, hφ⟩ := G_some hφ
        refine PT.region ?_
        refine Ops.put rfl rfl (ox_add .tmp .int hb7) ((.app (.one rfl) (.nil))) (.nil) rfl ?_
        refine Ops.put rfl rfl (ox_move .tmp) (.one rfl) (.nil) rfl ?_
        refine Ops.nil ?_
        refine PT.sub (σ' := ⟨[(0, .val (x0_m2)), (1, _), (7, .val (x7_m2)), (8, .val ((x8_m2 + (1 : Int))))], []⟩) ⟨rfl, rfl, rfl, rfl, trivial⟩ trivial ?_
        exact PT.next (m2, x0_m2, x7_m2, (x8_m2 + (1 : Int))) hφ (Nat.lt_succ_self _) ⟨rfl, rfl, rfl, rfl, trivial⟩ trivial
    · replace hφ := if_else hφ hc3
      refine PT.sub (σ' := ⟨[], []⟩) trivial trivial ?_
      refine PT.exit ?_
      exact PT.meet () hφ trivial trivial
  · rintro ⟨⟩ hφ
    subst hk1
    refine PT.sub (σ' := ⟨[], []⟩) trivial trivial ?_
    refine PT.seq ?_
    refine PT.region ?_
    refine Ops.put rfl rfl (ox_assign .int) (.nil) (.nil) rfl ?_
    refine Ops.nil ?_
    refine PT.sub (σ' := ⟨[(4, .val ((-1 : Int)))], []⟩) ⟨rfl, trivial⟩ trivial ?_
    refine PT.ret ?_
    obtain rfl := Option.some.inj hφ
    exact PT.done hw0 rfl (.tmp rfl rfl .nil) rfl
theorem c_model_entry {a0 : List Mk.Write} {a1 : Int} {r : Int} (hφ : model_entry a0 a1 = some r) : Fn Go.Proofs.Try.prog 110 [.val a0, .val a1] (.val r) := by
  unfold model_entry at hφ
  refine Fn.mk' Go.Proofs.Try.func110 rfl (by decide) rfl rfl rfl (fun w0 hw0 => ?_)
  refine PT.seq ?_
  refine PT.region ?_
  refine Ops.putO rfl rfl (ox_box (id := 3) .tmp) (.one rfl) (.nil) rfl (by kernel_rfl) ?_
  refine Ops.put rfl rfl (ox_assign .int) (.nil) (.nil) rfl ?_
  refine Ops.nil ?_
  refine PT.sub (σ' := ⟨[(0, .val (a0)), (3, _)], [(3, .var (a1) [])]⟩) ⟨rfl, rfl, trivial⟩ ⟨rfl, trivial⟩ ?_
  refine PT.seq ?_
  refine PT.freezeVar 3 [3] rfl ⟨rfl, trivial⟩ ?_
  obtain ⟨v1, hv1, hφ⟩ := B_some hφ
  refine PT.region ?_
  refine Ops.put rfl rfl (ox_move .tmp) (.one rfl) (.nil) rfl ?_
  refine Ops.put rfl rfl (ox_makeFunc (.cons .tmp .nil)) ((.app (.one rfl) .nil)) (.nil) rfl ?_
  refine Ops.put rfl rfl (ox_call (c_slices_IndexFunc___api_Write_api_Write__entry hv1) (.cons .tmp (.cons .tmp .nil))) ((.app (.one rfl) (.app (.one rfl) .nil))) (.nil) rfl ?_
  refine Ops.put rfl rfl (ox_assign .tmp) (.one rfl) (.nil) rfl ?_
  refine Ops.nil ?_
  refine PT.sub (σ' := ⟨[(4, .val (v1))], []⟩) ⟨rfl, trivial⟩ trivial ?_
  refine PT.ret ?_
  obtain rfl := Option.some.inj hφ
  exact PT.done hw0 rfl (.tmp rfl rfl .nil) rfl
theorem c_model_Do {a0 : List Mk.Write} {a1 : Mk.Call} {r : ((List Mk.Write) × Mk.Reply)} (hφ : model_Do a0 a1 = some r) : Fn Go.Proofs.Try.prog 79 [.val a0, .val a1] (.tup [.val r.1, .val r.2]) := by
  unfold model_Do at hφ
  refine Fn.mk' Go.Proofs.Try.func79 rfl (by decide) rfl rfl rfl (fun w0 hw0 => ?_)
  refine PT.seq ?_
  refine PT.region ?_
  refine Ops.putO rfl rfl (ox_box (id := 3) .tmp) (.one rfl) (.nil) rfl (by kernel_rfl) ?_
  refine Ops.put rfl rfl (ox_assign .nilS) (.nil) (.nil) rfl ?_
  refine Ops.putO rfl rfl (ox_alloc (id := 5) z28) (.nil) (.nil) rfl (by kernel_rfl) ?_
  refine Ops.nil ?_
  refine PT.sub (σ' := ⟨[(0, .val (a0)), (3, _), (5, _)], [(3, .var (a1) []), (5, .var (({ Err := (0 : Int), N := (0 : Int) } : Mk.Reply)) [])]⟩) ⟨rfl, rfl, rfl, trivial⟩ ⟨rfl, rfl, trivial⟩ ?_
  refine PT.seq ?_
  obtain ⟨v1, hv1, hφ⟩ := B_some hφ
  refine PT.region ?_
  refine Ops.put rfl rfl (ox_move .tmp) (.one rfl) (.nil) rfl ?_
  refine Ops.putO rfl rfl (ox_callX (x_slices_Clone___api_Write_api_Write_ hv1) [] [(5, 13)] [(5, 13)] [] (.cons .tmp .nil) rfl rfl rfl rfl rfl rfl rfl rfl trivial rfl rfl rfl rfl) ((.app (.one rfl) .nil)) (.nil) rfl (by kernel_rfl) ?_
  refine Ops.put rfl rfl (ox_assign .tmp) (.one rfl) (.nil) rfl ?_
  refine Ops.nil ?_
  refine PT.sub (σ' := ⟨[(3, _), (5, _), (6, _)], [(3, .var (a1) []), (5, .var (({ Err := (0 : Int), N := (0 : Int) } : Mk.Reply)) []), (13, .arr 50 (v1))]⟩) ⟨rfl, rfl, rfl, trivial⟩ ⟨rfl, rfl, rfl, trivial⟩ ?_
  refine PT.seq ?_
  obtain ⟨v2, hv2, hφ⟩ := B_some hφ
  refine PT.region ?_
  refine Ops.put rfl rfl (ox_move .tmp) (.one rfl) (.nil) rfl ?_
  refine Ops.put rfl rfl (ox_fieldAddr_var Call_Name f23_1) (.one rfl) (.nil) rfl ?_
  refine Ops.put rfl rfl (ox_load_fld t3) (.one rfl) (.one rfl) rfl ?_
  refine Ops.put rfl rfl (ox_callL (id := 13) (c_model_entry hv2) flat_int (.lent .tmp (.cons .tmp .nil))) ((.app (.one rfl) (.app (.one rfl) .nil))) (.one rfl) rfl ?_
  refine Ops.put rfl rfl (ox_assign .tmp) (.one rfl) (.nil) rfl ?_
  refine Ops.nil ?_
  refine PT.sub (σ' := ⟨[(3, _), (5, _), (6, _), (7, .val (v2))], [(3, .var (a1) []), (5, .var (({ Err := (0 : Int), N := (0 : Int) } : Mk.Reply)) []), (13, .arr 50 (v1))]⟩) ⟨rfl, rfl, rfl, rfl, trivial⟩ ⟨rfl, rfl, rfl, trivial⟩ ?_
  refine PT.seq ?_
  refine PT.region ?_
  refine Ops.put rfl rfl (ox_assign .int) (.nil) (.nil) rfl ?_
  refine Ops.nil ?_
  refine PT.sub (σ' := ⟨[(3, _), (5, _), (6, _), (7, .val (v2)), (8, .val ((0 : Int)))], [(3, .var (a1) []), (5, .var (({ Err := (0 : Int), N := (0 : Int) } : Mk.Reply)) []), (13, .arr 50 (v1))]⟩) ⟨rfl, rfl, rfl, rfl, rfl, trivial⟩ ⟨rfl, rfl, rfl, trivial⟩ ?_
  obtain ⟨k3, hk3, hφ⟩ := J_some hφ
  refine PT.cut (ι := Int × Int × Mk.Call × Mk.Reply × (List Mk.Write)) (fun p => ⟨[(3, .ptr 3 (Lens.id (α := Mk.Call))), (5, .ptr 5 (Lens.id (α := Mk.Reply))), (6, .sl 13), (7, .val (p.1)), (8, .val (p.2.1))], [(3, .var (p.2.2.1) []), (5, .var (p.2.2.2.1) []), (13, .arr 50 (p.2.2.2.2))]⟩) (fun p => k3 (p.1) (p.2.1) (p.2.2.1) (p.2.2.2.1) (p.2.2.2.2) = some r) ?_ ?_
  · skip
    refine PT.seq ?_
    refine PT.region ?_
    refine Ops.put rfl rfl (ox_move .tmp) (.one rfl) (.nil) rfl ?_
    refine Ops.put rfl rfl (ox_geq .tmp .int) ((.app (.one rfl) (.nil))) (.nil) rfl ?_
    refine Ops.nil ?_
    refine PT.sub (σ' := ⟨[(3, _), (5, _), (6, _), (7, .val (v2)), (8, .val ((0 : Int))), (19, .val ((decide ((0 : Int) ≤ v2))))], [(3, .var (a1) []), (5, .var (({ Err := (0 : Int), N := (0 : Int) } : Mk.Reply)) []), (13, .arr 50 (v1))]⟩) ⟨rfl, rfl, rfl, rfl, rfl, rfl, trivial⟩ ⟨rfl, rfl, rfl, trivial⟩ ?_
    refine PT.cond _ rfl (fun hc4 => ?_) (fun hc4 => ?_)
    · replace hφ := if_then hφ hc4
      refine PT.sub (σ' := ⟨[(3, _), (5, _), (6, _), (7, .val (v2))], [(3, .var (a1) []), (5, .var (({ Err := (0 : Int), N := (0 : Int) } : Mk.Reply)) []), (13, .arr 50 (v1))]⟩) ⟨rfl, rfl, rfl, rfl, trivial⟩ ⟨rfl, rfl, rfl, trivial⟩ ?_
      obtain ⟨hb5, hφ⟩ := G_some hφ
      refine PT.region ?_
      refine Ops.put rfl rfl (ox_move .tmp) (.one rfl) (.nil) rfl ?_
      refine Ops.put rfl rfl (ox_move .tmp) (.one rfl) (.nil) rfl ?_
      refine Ops.put rfl rfl (ox_index_arr s44 .tmp .tmp hb5.1 hb5.2) ((.app (.one rfl) (.one rfl))) (.one rfl) rfl ?_
      refine Ops.put rfl rfl (ox_fieldAddr_aptr Write_N f50_1) (.one rfl) (.nil) rfl ?_
      refine Ops.put rfl rfl (ox_load_ax t3 hb5) (.one rfl) (.one rfl) rfl ?_
      refine Ops.put rfl rfl (ox_assign .tmp) (.one rfl) (.nil) rfl ?_
      refine Ops.nil ?_
      refine PT.sub (σ' := ⟨[(3, _), (5, _), (6, _), (7, .val (v2)), (8, .val ((ix v1 v2).N))], [(3, .var (a1) []), (5, .var (({ Err := (0 : Int), N := (0 : Int) } : Mk.Reply)) []), (13, .arr 50 (v1))]⟩) ⟨rfl, rfl, rfl, rfl, rfl, trivial⟩ ⟨rfl, rfl, rfl, trivial⟩ ?_
      exact PT.meet (v2, (ix v1 v2).N, a1, ({ Err := (0 : Int), N := (0 : Int) } : Mk.Reply), v1) hφ ⟨rfl, rfl, rfl, rfl, rfl, trivial⟩ ⟨rfl, rfl, rfl, trivial⟩
    · replace hφ := if_else hφ hc4
      refine PT.sub (σ' := ⟨[(3, _), (5, _), (6, _), (7, .val (v2)), (8, .val ((0 : Int)))], [(3, .var (a1) []), (5, .var (({ Err := (0 : Int), N := (0 : Int) } : Mk.Reply)) []), (13, .arr 50 (v1))]⟩) ⟨rfl, rfl, rfl, rfl, rfl, trivial⟩ ⟨rfl, rfl, rfl, trivial⟩ ?_
      refine PT.skip ?_
      exact PT.meet (v2, (0 : Int), a1, ({ Err := (0 : Int), N := (0 : Int) } : Mk.Reply), v1) hφ ⟨rfl, rfl, rfl, rfl, rfl, trivial⟩ ⟨rfl, rfl, rfl, trivial⟩
  · rintro ⟨x7_k3, x8_k3, y3_k3, y5_k3, y13_k3⟩ hφ
    subst hk3
    refine PT.sub (σ' := ⟨[(3, .ptr 3 (Lens.id (α := Mk.Call))), (5, .ptr 5 (Lens.id (α := Mk.Reply))), (6, .sl 13), (7, .val (x7_k3)), (8, .val (x8_k3))], [(3, .var (y3_k3) []), (5, .var (y5_k3) []), (13, .arr 50 (y13_k3))]⟩) ⟨rfl, rfl, rfl, rfl, rfl, trivial⟩ ⟨rfl, rfl, rfl, trivial⟩ ?_
    refine PT.seq ?_
    refine PT.seq ?_
    refine PT.region ?_
    refine Ops.put rfl rfl (ox_fieldAddr_var Call_Kind f23_0) (.one rfl) (.nil) rfl ?_
    refine Ops.put rfl rfl (ox_load_fld t3) (.one rfl) (.one rfl) rfl ?_
    refine Ops.nil ?_
    refine PT.sub (σ' := ⟨[(3, _), (5, _), (6, _), (7, .val (x7_k3)), (8, .val (x8_k3)), (26, .val (y3_k3.Kind))], [(3, .var (y3_k3) []), (5, .var (y5_k3) []), (13, .arr 50 (y13_k3))]⟩) ⟨rfl, rfl, rfl, rfl, rfl, rfl, trivial⟩ ⟨rfl, rfl, rfl, trivial⟩ ?_
    refine PT.block ?_
    refine PT.seq ?_
    refine PT.region ?_
    refine Ops.put rfl rfl (ox_eql .tmp .int) ((.app (.one rfl) (.nil))) (.nil) rfl ?_
    refine Ops.put rfl rfl (ox_assign .tmp) (.one rfl) (.nil) rfl ?_
    refine Ops.nil ?_
    refine PT.sub (σ' := ⟨[(3, _), (5, _), (6, _), (7, .val (x7_k3)), (8, .val (x8_k3)), (26, .val (y3_k3.Kind)), (27, .val ((decide (y3_k3.Kind = (5 : Int)))))], [(3, .var (y3_k3) []), (5, .var (y5_k3) []), (13, .arr 50 (y13_k3))]⟩) ⟨rfl, rfl, rfl, rfl, rfl, rfl, rfl, trivial⟩ ⟨rfl, rfl, rfl, trivial⟩ ?_
    refine PT.cond _ rfl (fun hc6 => ?_) (fun hc6 => ?_)
    · replace hφ := if_then hφ hc6
      refine PT.sub (σ' := ⟨[(5, _), (6, _)], [(5, .var (y5_k3) []), (13, .arr 50 (y13_k3))]⟩) ⟨rfl, rfl, trivial⟩ ⟨rfl, rfl, trivial⟩ ?_
      refine PT.seq ?_
      refine PT.region ?_
      refine Ops.put rfl rfl (ox_move .tmp) (.one rfl) (.nil) rfl ?_
      refine Ops.put rfl rfl (ox_move .tmp) (.one rfl) (.nil) rfl ?_
      refine Ops.put rfl rfl (ox_len_arr s44 .tmp) (.one rfl) (.one rfl) rfl ?_
      refine Ops.put rfl rfl (ox_buildB z28 u28 rfl (.cons Reply_N f28_1 .tmp Bld.nil)) ((.app (.one rfl) .nil)) (.nil) rfl ?_
      refine Ops.put rfl rfl (ox_assign .tmp) (.one rfl) (.nil) rfl ?_
      refine Ops.mute rfl rfl (ox_store_var t28 .tmp) ((.cons rfl (.one rfl))) (.one rfl) ?_
      refine Ops.nil ?_
      refine PT.sub (σ' := ⟨[(4, _), (5, _)], [(5, .var (({ Err := (0 : Int), N := (y13_k3.length : Int) } : Mk.Reply)) []), (13, .arr 50 (y13_k3))]⟩) ⟨rfl, rfl, trivial⟩ ⟨rfl, rfl, trivial⟩ ?_
      refine PT.ret ?_
      refine PT.freeze 13 [4] rfl ⟨rfl, trivial⟩ ?_
      obtain rfl := Option.some.inj hφ
      exact PT.done hw0 rfl (.tmp rfl rfl (.cell t28 rfl rfl .nil)) rfl
    · replace hφ := if_else hφ hc6
      refine PT.sub (σ' := ⟨[(3, _), (5, _), (6, _), (7, .val (x7_k3)), (8, .val (x8_k3)), (26, .val (y3_k3.Kind))], [(3, .var (y3_k3) []), (5, .var (y5_k3) []), (13, .arr 50 (y13_k3))]⟩) ⟨rfl, rfl, rfl, rfl, rfl, rfl, trivial⟩ ⟨rfl, rfl, rfl, trivial⟩ ?_
      refine PT.seq ?_
      refine PT.region ?_
      refine Ops.put rfl rfl (ox_eql .tmp .int) ((.app (.one rfl) (.nil))) (.nil) rfl ?_
      refine Ops.put rfl rfl (ox_assign .tmp) (.one rfl) (.nil) rfl ?_
      refine Ops.nil ?_
      refine PT.sub (σ' := ⟨[(3, _), (5, _), (6, _), (7, .val (x7_k3)), (8, .val (x8_k3)), (33, .val ((decide (y3_k3.Kind = (1 : Int)))))], [(3, .var (y3_k3) []), (5, .var (y5_k3) []), (13, .arr 50 (y13_k3))]⟩) ⟨rfl, rfl, rfl, rfl, rfl, rfl, trivial⟩ ⟨rfl, rfl, rfl, trivial⟩ ?_
      refine PT.cond _ rfl (fun hc7 => ?_) (fun hc7 => ?_)
      · replace hφ := if_then hφ hc7
        refine PT.sub (σ' := ⟨[(3, _), (5, _), (6, _), (7, .val (x7_k3)), (8, .val (x8_k3))], [(3, .var (y3_k3) []), (5, .var (y5_k3) []), (13, .arr 50 (y13_k3))]⟩) ⟨rfl, rfl, rfl, rfl, rfl, trivial⟩ ⟨rfl, rfl, rfl, trivial⟩ ?_
        refine PT.seq ?_
        refine PT.seq ?_
        refine PT.region ?_
        refine Ops.put rfl rfl (ox_move .tmp) (.one rfl) (.nil) rfl ?_
        refine Ops.put rfl rfl (ox_lss .tmp .int) ((.app (.one rfl) (.nil))) (.nil) rfl ?_
        refine Ops.put rfl rfl (ox_move .tmp) (.one rfl) (.nil) rfl ?_
        refine Ops.guard rfl rfl rfl rfl (.plain .nil) (fun hG => (ox_move .tmp)) ⟨rfl, trivial⟩ (.nil) rfl ?_
        refine Ops.guard rfl rfl rfl rfl (.cond (fun h => h) .nil) (fun hG => (ox_len_arr s44 .tmp)) ⟨rfl, trivial⟩ (.one rfl) rfl ?_
        refine Ops.guard rfl rfl rfl rfl (.cond (fun h => h) .nil) (fun hG => (ox_geq .tmp .int)) ⟨rfl, trivial⟩ (.nil) rfl ?_
        refine Ops.put rfl rfl ox_pick_and (⟨rfl, rfl, trivial⟩) (.nil) rfl ?_
        refine Ops.nil ?_
        refine PT.sub (σ' := ⟨[(3, _), (5, _), (6, _), (7, .val (x7_k3)), (8, .val (x8_k3)), (41, .val (((decide (x7_k3 < (0 : Int))) && (decide ((5 : Int) ≤ (y13_k3.length : Int))))))], [(3, .var (y3_k3) []), (5, .var (y5_k3) []), (13, .arr 50 (y13_k3))]⟩) ⟨rfl, rfl, rfl, rfl, rfl, rfl, trivial⟩ ⟨rfl, rfl, rfl, trivial⟩ ?_
        refine PT.cond _ rfl (fun hc8 => ?_) (fun hc8 => ?_)
        · replace hφ := if_then hφ hc8
          refine PT.sub (σ' := ⟨[(5, _), (6, _)], [(5, .var (y5_k3) []), (13, .arr 50 (y13_k3))]⟩) ⟨rfl, rfl, trivial⟩ ⟨rfl, rfl, trivial⟩ ?_
          refine PT.seq ?_
          refine PT.region ?_
          refine Ops.put rfl rfl (ox_move .tmp) (.one rfl) (.nil) rfl ?_
          refine Ops.put rfl rfl (ox_buildB z28 u28 rfl (.cons Reply_Err f28_0 .int Bld.nil)) ((.app (.nil) .nil)) (.nil) rfl ?_
          refine Ops.put rfl rfl (ox_assign .tmp) (.one rfl) (.nil) rfl ?_
          refine Ops.mute rfl rfl (ox_store_var t28 .tmp) ((.cons rfl (.one rfl))) (.one rfl) ?_
          refine Ops.nil ?_
          refine PT.sub (σ' := ⟨[(4, _), (5, _)], [(5, .var (({ Err := (9 : Int), N := (0 : Int) } : Mk.Reply)) []), (13, .arr 50 (y13_k3))]⟩) ⟨rfl, rfl, trivial⟩ ⟨rfl, rfl, trivial⟩ ?_
          refine PT.ret ?_
          refine PT.freeze 13 [4] rfl ⟨rfl, trivial⟩ ?_
          obtain rfl := Option.some.inj hφ
          exact PT.done hw0 rfl (.tmp rfl rfl (.cell t28 rfl rfl .nil)) rfl
        · replace hφ := if_else hφ hc8
          refine PT.sub (σ' := ⟨[(3, _), (5, _), (6, _), (7, .val (x7_k3)), (8, .val (x8_k3))], [(3, .var (y3_k3) []), (5, .var (y5_k3) []), (13, .arr 50 (y13_k3))]⟩) ⟨rfl, rfl, rfl, rfl, rfl, trivial⟩ ⟨rfl, rfl, rfl, trivial⟩ ?_
          refine PT.skip ?_
          refine PT.seq ?_
          refine PT.seq ?_
          refine PT.region ?_
          refine Ops.put rfl rfl (ox_move .tmp) (.one rfl) (.nil) rfl ?_
          refine Ops.put rfl rfl (ox_lss .tmp .int) ((.app (.one rfl) (.nil))) (.nil) rfl ?_
          refine Ops.nil ?_
          refine PT.sub (σ' := ⟨[(3, _), (5, _), (6, _), (7, .val (x7_k3)), (8, .val (x8_k3)), (45, .val ((decide (x7_k3 < (0 : Int)))))], [(3, .var (y3_k3) []), (5, .var (y5_k3) []), (13, .arr 50 (y13_k3))]⟩) ⟨rfl, rfl, rfl, rfl, rfl, rfl, trivial⟩ ⟨rfl, rfl, rfl, trivial⟩ ?_
          refine PT.cond _ rfl (fun hc9 => ?_) (fun hc9 => ?_)
          · replace hφ := if_then hφ hc9
            refine PT.sub (σ' := ⟨[(3, _), (5, _), (6, _)], [(3, .var (y3_k3) []), (5, .var (y5_k3) []), (13, .arr 50 (y13_k3))]⟩) ⟨rfl, rfl, rfl, trivial⟩ ⟨rfl, rfl, rfl, trivial⟩ ?_
            refine PT.seq ?_
            obtain ⟨hb10, hφ⟩ := G_some hφ
            refine PT.region ?_
            refine Ops.put rfl rfl (ox_move .tmp) (.one rfl) (.nil) rfl ?_
            refine Ops.put rfl rfl (ox_fieldAddr_var Call_Name f23_1) (.one rfl) (.nil) rfl ?_
            refine Ops.put rfl rfl (ox_load_fld t3) (.one rfl) (.one rfl) rfl ?_
            refine Ops.put rfl rfl (ox_fieldAddr_var Call_N f23_3) (.one rfl) (.nil) rfl ?_
            refine Ops.put rfl rfl (ox_load_fld t3) (.one rfl) (.one rfl) rfl ?_
            refine Ops.put rfl rfl (ox_buildB z50 u50 rfl (.cons Write_At f50_0 .tmp (.cons Write_N f50_1 .tmp Bld.nil))) ((.app (.one rfl) (.app (.one rfl) .nil))) (.nil) rfl ?_
            refine Ops.put rfl rfl (ox_buildSlice_val s44 z50 (.cons .tmp Parts.nil) rfl (by decide)) ((.app (.one rfl) .nil)) (.nil) rfl ?_
            refine Ops.putK [6, 46] rfl rfl (ox_append a44 .tmp .tmp hb10.1 hb10.2) ((.app (.one rfl) (.one rfl))) (.one rfl) rfl (by kernel_rfl) ?_
            refine Ops.put rfl rfl (ox_buildB z28 u28 rfl Bld.nil) (.nil) (.nil) rfl ?_
            refine Ops.put rfl rfl (ox_assign .tmp) (.one rfl) (.nil) rfl ?_
            refine Ops.mute rfl rfl (ox_store_var t28 .tmp) ((.cons rfl (.one rfl))) (.one rfl) ?_
            refine Ops.nil ?_
            refine PT.sub (σ' := ⟨[(4, _), (5, _)], [(5, .var (({ Err := (0 : Int), N := (0 : Int) } : Mk.Reply)) []), (13, .arr 50 ((y13_k3 ++ ([({ At := y3_k3.Name, N := y3_k3.N } : Mk.Write)] : List Mk.Write))))]⟩) ⟨rfl, rfl, trivial⟩ ⟨rfl, rfl, trivial⟩ ?_
            refine PT.ret ?_
            refine PT.freeze 13 [4] rfl ⟨rfl, trivial⟩ ?_
            obtain rfl := Option.some.inj hφ
            exact PT.done hw0 rfl (.tmp rfl rfl (.cell t28 rfl rfl .nil)) rfl
          · replace hφ := if_else hφ hc9
            refine PT.sub (σ' := ⟨[(3, _), (5, _), (6, _), (7, .val (x7_k3)), (8, .val (x8_k3))], [(3, .var (y3_k3) []), (5, .var (y5_k3) []), (13, .arr 50 (y13_k3))]⟩) ⟨rfl, rfl, rfl, rfl, rfl, trivial⟩ ⟨rfl, rfl, rfl, trivial⟩ ?_
            refine PT.skip ?_
            refine PT.seq ?_
            obtain ⟨hb11, hφ⟩ := G_some hφ
            refine PT.region ?_
            refine Ops.put rfl rfl (ox_move .tmp) (.one rfl) (.nil) rfl ?_
            refine Ops.put rfl rfl (ox_move .tmp) (.one rfl) (.nil) rfl ?_
            refine Ops.put rfl rfl (ox_fieldAddr_var Call_N f23_3) (.one rfl) (.nil) rfl ?_
            refine Ops.put rfl rfl (ox_load_fld t3) (.one rfl) (.one rfl) rfl ?_
            refine Ops.put rfl rfl (ox_index_arr s44 .tmp .tmp hb11.1 hb11.2) ((.app (.one rfl) (.one rfl))) (.one rfl) rfl ?_
            refine Ops.put rfl rfl (ox_fieldAddr_aptr Write_N f50_1) (.one rfl) (.nil) rfl ?_
            refine Ops.mute rfl rfl (ox_store_ax t3 .tmp hb11) ((.cons rfl (.one rfl))) (.one rfl) ?_
            refine Ops.nil ?_
            refine PT.sub (σ' := ⟨[(5, _), (6, _), (8, .val (x8_k3))], [(5, .var (y5_k3) []), (13, .arr 50 ((up y13_k3 x7_k3 { (ix y13_k3 x7_k3) with N := y3_k3.N })))]⟩) ⟨rfl, rfl, rfl, trivial⟩ ⟨rfl, rfl, trivial⟩ ?_
            refine PT.seq ?_
            refine PT.region ?_
            refine Ops.put rfl rfl (ox_move .tmp) (.one rfl) (.nil) rfl ?_
            refine Ops.put rfl rfl (ox_move .tmp) (.one rfl) (.nil) rfl ?_
            refine Ops.put rfl rfl (ox_buildB z28 u28 rfl (.cons Reply_N f28_1 .tmp Bld.nil)) ((.app (.one rfl) .nil)) (.nil) rfl ?_
            refine Ops.put rfl rfl (ox_assign .tmp) (.one rfl) (.nil) rfl ?_
            refine Ops.mute rfl rfl (ox_store_var t28 .tmp) ((.cons rfl (.one rfl))) (.one rfl) ?_
            refine Ops.nil ?_
            refine PT.sub (σ' := ⟨[(4, _), (5, _)], [(5, .var (({ Err := (0 : Int), N := x8_k3 } : Mk.Reply)) []), (13, .arr 50 ((up y13_k3 x7_k3 { (ix y13_k3 x7_k3) with N := y3_k3.N })))]⟩) ⟨rfl, rfl, trivial⟩ ⟨rfl, rfl, trivial⟩ ?_
            refine PT.ret ?_
            refine PT.freeze 13 [4] rfl ⟨rfl, trivial⟩ ?_
            obtain rfl := Option.some.inj hφ
            exact PT.done hw0 rfl (.tmp rfl rfl (.cell t28 rfl rfl .nil)) rfl
      · replace hφ := if_else hφ hc7
        refine PT.sub (σ' := ⟨[(3, _), (5, _), (6, _), (7, .val (x7_k3)), (8, .val (x8_k3))], [(3, .var (y3_k3) []), (5, .var (y5_k3) []), (13, .arr 50 (y13_k3))]⟩) ⟨rfl, rfl, rfl, rfl, rfl, trivial⟩ ⟨rfl, rfl, rfl, trivial⟩ ?_
        refine PT.skip ?_
        refine PT.seq ?_
        refine PT.seq ?_
        refine PT.region ?_
        refine Ops.put rfl rfl (ox_move .tmp) (.one rfl) (.nil) rfl ?_
        refine Ops.put rfl rfl (ox_lss .tmp .int) ((.app (.one rfl) (.nil))) (.nil) rfl ?_
        refine Ops.nil ?_
        refine PT.sub (σ' := ⟨[(3, _), (5, _), (6, _), (7, .val (x7_k3)), (8, .val (x8_k3)), (65, .val ((decide (x7_k3 < (0 : Int)))))], [(3, .var (y3_k3) []), (5, .var (y5_k3) []), (13, .arr 50 (y13_k3))]⟩) ⟨rfl, rfl, rfl, rfl, rfl, rfl, trivial⟩ ⟨rfl, rfl, rfl, trivial⟩ ?_
        refine PT.cond _ rfl (fun hc12 => ?_) (fun hc12 => ?_)
        · replace hφ := if_then hφ hc12
          refine PT.sub (σ' := ⟨[(5, _), (6, _)], [(5, .var (y5_k3) []), (13, .arr 50 (y13_k3))]⟩) ⟨rfl, rfl, trivial⟩ ⟨rfl, rfl, trivial⟩ ?_
          refine PT.seq ?_
          refine PT.region ?_
          refine Ops.put rfl rfl (ox_move .tmp) (.one rfl) (.nil) rfl ?_
          refine Ops.put rfl rfl (ox_buildB z28 u28 rfl (.cons Reply_Err f28_0 .int Bld.nil)) ((.app (.nil) .nil)) (.nil) rfl ?_
          refine Ops.put rfl rfl (ox_assign .tmp) (.one rfl) (.nil) rfl ?_
          refine Ops.mute rfl rfl (ox_store_var t28 .tmp) ((.cons rfl (.one rfl))) (.one rfl) ?_
          refine Ops.nil ?_
          refine PT.sub (σ' := ⟨[(4, _), (5, _)], [(5, .var (({ Err := (6 : Int), N := (0 : Int) } : Mk.Reply)) []), (13, .arr 50 (y13_k3))]⟩) ⟨rfl, rfl, trivial⟩ ⟨rfl, rfl, trivial⟩ ?_
          refine PT.ret ?_
          refine PT.freeze 13 [4] rfl ⟨rfl, trivial⟩ ?_
          obtain rfl := Option.some.inj hφ
          exact PT.done hw0 rfl (.tmp rfl rfl (.cell t28 rfl rfl .nil)) rfl
        · replace hφ := if_else hφ hc12
          refine PT.sub (σ' := ⟨[(3, _), (5, _), (6, _), (7, .val (x7_k3)), (8, .val (x8_k3))], [(3, .var (y3_k3) []), (5, .var (y5_k3) []), (13, .arr 50 (y13_k3))]⟩) ⟨rfl, rfl, rfl, rfl, rfl, trivial⟩ ⟨rfl, rfl, rfl, trivial⟩ ?_
          refine PT.skip ?_
          obtain ⟨k13, hk13, hφ⟩ := J_some hφ
          refine PT.cut (ι := Int × Mk.Reply × (List Mk.Write)) (fun p => ⟨[(5, .ptr 5 (Lens.id (α := Mk.Reply))), (6, .sl 13), (7, .val (p.1))], [(5, .var (p.2.1) []), (13, .arr 50 (p.2.2))]⟩) (fun p => k13 (p.1) (p.2.1) (p.2.2) = some r) ?_ ?_
          · skip
            refine PT.seq ?_
            refine PT.region ?_
            refine Ops.put rfl rfl (ox_fieldAddr_var Call_Kind f23_0) (.one rfl) (.nil) rfl ?_
            refine Ops.put rfl rfl (ox_load_fld t3) (.one rfl) (.one rfl) rfl ?_
            refine Ops.nil ?_
            refine PT.sub (σ' := ⟨[(3, _), (5, _), (6, _), (7, .val (x7_k3)), (8, .val (x8_k3)), (69, .val (y3_k3.Kind))], [(3, .var (y3_k3) []), (5, .var (y5_k3) []), (13, .arr 50 (y13_k3))]⟩) ⟨rfl, rfl, rfl, rfl, rfl, rfl, trivial⟩ ⟨rfl, rfl, rfl, trivial⟩ ?_
            refine PT.block ?_
            refine PT.seq ?_
            refine PT.region ?_
            refine Ops.put rfl rfl (ox_eql .tmp .int) ((.app (.one rfl) (.nil))) (.nil) rfl ?_
            refine Ops.put rfl rfl (ox_assign .tmp) (.one rfl) (.nil) rfl ?_
            refine Ops.nil ?_
            refine PT.sub (σ' := ⟨[(3, _), (5, _), (6, _), (7, .val (x7_k3)), (8, .val (x8_k3)), (69, .val (y3_k3.Kind)), (70, .val ((decide (y3_k3.Kind = (3 : Int)))))], [(3, .var (y3_k3) []), (5, .var (y5_k3) []), (13, .arr 50 (y13_k3))]⟩) ⟨rfl, rfl, rfl, rfl, rfl, rfl, rfl, trivial⟩ ⟨rfl, rfl, rfl, trivial⟩ ?_
            refine PT.cond _ rfl (fun hc14 => ?_) (fun hc14 => ?_)
            · replace hφ := if_then hφ hc14
              refine PT.sub (σ' := ⟨[(5, _), (6, _), (7, .val (x7_k3)), (8, .val (x8_k3))], [(5, .var (y5_k3) []), (13, .arr 50 (y13_k3))]⟩) ⟨rfl, rfl, rfl, rfl, trivial⟩ ⟨rfl, rfl, trivial⟩ ?_
              refine PT.seq ?_
              obtain ⟨hb15, hφ⟩ := G_some hφ
              refine PT.region ?_
              refine Ops.put rfl rfl (ox_move .tmp) (.one rfl) (.nil) rfl ?_
              refine Ops.put rfl rfl (ox_len_arr s44 .tmp) (.one rfl) (.one rfl) rfl ?_
              refine Ops.put rfl rfl (ox_sub .tmp .int hb15) ((.app (.one rfl) (.nil))) (.nil) rfl ?_
              refine Ops.put rfl rfl (ox_assign .tmp) (.one rfl) (.nil) rfl ?_
              refine Ops.nil ?_
              refine PT.sub (σ' := ⟨[(5, _), (6, _), (7, .val (x7_k3)), (8, .val (x8_k3)), (9, .val (((y13_k3.length : Int) - (1 : Int))))], [(5, .var (y5_k3) []), (13, .arr 50 (y13_k3))]⟩) ⟨rfl, rfl, rfl, rfl, rfl, trivial⟩ ⟨rfl, rfl, trivial⟩ ?_
              refine PT.seq ?_
              obtain ⟨hb16, hφ⟩ := G_some hφ
              obtain ⟨hb17, hφ⟩ := G_some hφ
              refine PT.region ?_
              refine Ops.put rfl rfl (ox_move .tmp) (.one rfl) (.nil) rfl ?_
              refine Ops.put rfl rfl (ox_move .tmp) (.one rfl) (.nil) rfl ?_
              refine Ops.put rfl rfl (ox_move .tmp) (.one rfl) (.nil) rfl ?_
              refine Ops.put rfl rfl (ox_move .tmp) (.one rfl) (.nil) rfl ?_
              refine Ops.put rfl rfl (ox_index_arr s44 .tmp .tmp hb16.1 hb16.2) ((.app (.one rfl) (.one rfl))) (.one rfl) rfl ?_
              refine Ops.put rfl rfl (ox_load_ax t50 hb16) (.one rfl) (.one rfl) rfl ?_
              refine Ops.put rfl rfl (ox_index_arr s44 .tmp .tmp hb17.1 hb17.2) ((.app (.one rfl) (.one rfl))) (.one rfl) rfl ?_
              refine Ops.mute rfl rfl (ox_store_ax t50 .tmp hb17) ((.cons rfl (.one rfl))) (.one rfl) ?_
              refine Ops.nil ?_
              refine PT.sub (σ' := ⟨[(5, _), (6, _), (8, .val (x8_k3)), (9, .val (((y13_k3.length : Int) - (1 : Int))))], [(5, .var (y5_k3) []), (13, .arr 50 ((up y13_k3 x7_k3 (ix y13_k3 ((y13_k3.length : Int) - (1 : Int))))))]⟩) ⟨rfl, rfl, rfl, rfl, trivial⟩ ⟨rfl, rfl, trivial⟩ ?_
              refine PT.seq ?_
              refine PT.freeze 13 [6] rfl ⟨rfl, trivial⟩ ?_
              obtain ⟨hb18, hφ⟩ := G_some hφ
              refine PT.region ?_
              refine Ops.put rfl rfl (ox_move .tmp) (.one rfl) (.nil) rfl ?_
              refine Ops.put rfl rfl (ox_move .tmp) (.one rfl) (.nil) rfl ?_
              refine Ops.put rfl rfl (ox_slice s44 .tmp .none (.some .tmp) hb18.1 hb18.2.1 hb18.2.2) ((.app (.one rfl) ((.app (.nil) (.one rfl))))) (.nil) rfl ?_
              refine Ops.put rfl rfl (ox_move .tmp) (.one rfl) (.nil) rfl ?_
              refine Ops.put rfl rfl (ox_buildB z28 u28 rfl (.cons Reply_N f28_1 .tmp Bld.nil)) ((.app (.one rfl) .nil)) (.nil) rfl ?_
              refine Ops.put rfl rfl (ox_assign .tmp) (.one rfl) (.nil) rfl ?_
              refine Ops.mute rfl rfl (ox_store_var t28 .tmp) ((.cons rfl (.one rfl))) (.one rfl) ?_
              refine Ops.nil ?_
              refine PT.sub (σ' := ⟨[(4, .val ((sub (up y13_k3 x7_k3 (ix y13_k3 ((y13_k3.length : Int) - (1 : Int)))) (0 : Int) ((y13_k3.length : Int) - (1 : Int))))), (5, _)], [(5, .var (({ Err := (0 : Int), N := x8_k3 } : Mk.Reply)) [])]⟩) ⟨rfl, rfl, trivial⟩ ⟨rfl, trivial⟩ ?_
              refine PT.ret ?_
              obtain rfl := Option.some.inj hφ
              exact PT.done hw0 rfl (.tmp rfl rfl (.cell t28 rfl rfl .nil)) rfl
            · replace hφ := if_else hφ hc14
              refine PT.sub (σ' := ⟨[(3, _), (5, _), (6, _), (7, .val (x7_k3)), (8, .val (x8_k3)), (69, .val (y3_k3.Kind))], [(3, .var (y3_k3) []), (5, .var (y5_k3) []), (13, .arr 50 (y13_k3))]⟩) ⟨rfl, rfl, rfl, rfl, rfl, rfl, trivial⟩ ⟨rfl, rfl, rfl, trivial⟩ ?_
              refine PT.seq ?_
              refine PT.region ?_
              refine Ops.put rfl rfl (ox_eql .tmp .int) ((.app (.one rfl) (.nil))) (.nil) rfl ?_
              refine Ops.put rfl rfl (ox_assign .tmp) (.one rfl) (.nil) rfl ?_
              refine Ops.nil ?_
              refine PT.sub (σ' := ⟨[(3, _), (5, _), (6, _), (7, .val (x7_k3)), (8, .val (x8_k3)), (69, .val (y3_k3.Kind)), (87, .val ((decide (y3_k3.Kind = (4 : Int)))))], [(3, .var (y3_k3) []), (5, .var (y5_k3) []), (13, .arr 50 (y13_k3))]⟩) ⟨rfl, rfl, rfl, rfl, rfl, rfl, rfl, trivial⟩ ⟨rfl, rfl, rfl, trivial⟩ ?_
              refine PT.cond _ rfl (fun hc19 => ?_) (fun hc19 => ?_)
              · replace hφ := if_then hφ hc19
                refine PT.sub (σ' := ⟨[(3, _), (5, _), (6, _), (7, .val (x7_k3)), (8, .val (x8_k3))], [(3, .var (y3_k3) []), (5, .var (y5_k3) []), (13, .arr 50 (y13_k3))]⟩) ⟨rfl, rfl, rfl, rfl, rfl, trivial⟩ ⟨rfl, rfl, rfl, trivial⟩ ?_
                refine PT.seq ?_
                obtain ⟨hb20, hφ⟩ := G_some hφ
                refine PT.region ?_
                refine Ops.put rfl rfl (ox_move .tmp) (.one rfl) (.nil) rfl ?_
                refine Ops.put rfl rfl (ox_fieldAddr_var Call_N f23_3) (.one rfl) (.nil) rfl ?_
                refine Ops.put rfl rfl (ox_load_fld t3) (.one rfl) (.one rfl) rfl ?_
                refine Ops.put rfl rfl (ox_add .tmp .tmp hb20) ((.app (.one rfl) (.one rfl))) (.nil) rfl ?_
                refine Ops.put rfl rfl (ox_assign .tmp) (.one rfl) (.nil) rfl ?_
                refine Ops.nil ?_
                refine PT.sub (σ' := ⟨[(5, _), (6, _), (7, .val (x7_k3)), (10, .val ((x8_k3 + y3_k3.N)))], [(5, .var (y5_k3) []), (13, .arr 50 (y13_k3))]⟩) ⟨rfl, rfl, rfl, rfl, trivial⟩ ⟨rfl, rfl, trivial⟩ ?_
                refine PT.seq ?_
                refine PT.seq ?_
                refine PT.region ?_
                refine Ops.put rfl rfl (ox_move .tmp) (.one rfl) (.nil) rfl ?_
                refine Ops.put rfl rfl (ox_lss .tmp .int) ((.app (.one rfl) (.nil))) (.nil) rfl ?_
                refine Ops.put rfl rfl (ox_move .tmp) (.one rfl) (.nil) rfl ?_
                refine Ops.guard rfl rfl rfl rfl (.plain .nil) (fun hG => (ox_move .tmp)) ⟨rfl, trivial⟩ (.nil) rfl ?_
                refine Ops.guard rfl rfl rfl rfl (.cond (fun h => h) .nil) (fun hG => (ox_gtr .tmp .int)) ⟨rfl, trivial⟩ (.nil) rfl ?_
                refine Ops.put rfl rfl ox_pick_or (⟨rfl, rfl, trivial⟩) (.nil) rfl ?_
                refine Ops.nil ?_
                refine PT.sub (σ' := ⟨[(5, _), (6, _), (7, .val (x7_k3)), (10, .val ((x8_k3 + y3_k3.N))), (98, .val (((decide ((x8_k3 + y3_k3.N) < (-1073741824 : Int))) || (decide ((1073741824 : Int) < (x8_k3 + y3_k3.N))))))], [(5, .var (y5_k3) []), (13, .arr 50 (y13_k3))]⟩) ⟨rfl, rfl, rfl, rfl, rfl, trivial⟩ ⟨rfl, rfl, trivial⟩ ?_
                refine PT.cond _ rfl (fun hc21 => ?_) (fun hc21 => ?_)
                · replace hφ := if_then hφ hc21
                  refine PT.sub (σ' := ⟨[(5, _), (6, _)], [(5, .var (y5_k3) []), (13, .arr 50 (y13_k3))]⟩) ⟨rfl, rfl, trivial⟩ ⟨rfl, rfl, trivial⟩ ?_
                  refine PT.seq ?_
                  refine PT.region ?_
                  refine Ops.put rfl rfl (ox_move .tmp) (.one rfl) (.nil) rfl ?_
                  refine Ops.put rfl rfl (ox_buildB z28 u28 rfl (.cons Reply_Err f28_0 .int Bld.nil)) ((.app (.nil) .nil)) (.nil) rfl ?_
                  refine Ops.put rfl rfl (ox_assign .tmp) (.one rfl) (.nil) rfl ?_
                  refine Ops.mute rfl rfl (ox_store_var t28 .tmp) ((.cons rfl (.one rfl))) (.one rfl) ?_
                  refine Ops.nil ?_
                  refine PT.sub (σ' := ⟨[(4, _), (5, _)], [(5, .var (({ Err := (3 : Int), N := (0 : Int) } : Mk.Reply)) []), (13, .arr 50 (y13_k3))]⟩) ⟨rfl, rfl, trivial⟩ ⟨rfl, rfl, trivial⟩ ?_
                  refine PT.ret ?_
                  refine PT.freeze 13 [4] rfl ⟨rfl, trivial⟩ ?_
                  obtain rfl := Option.some.inj hφ
                  exact PT.done hw0 rfl (.tmp rfl rfl (.cell t28 rfl rfl .nil)) rfl
                · replace hφ := if_else hφ hc21
                  refine PT.sub (σ' := ⟨[(5, _), (6, _), (7, .val (x7_k3)), (10, .val ((x8_k3 + y3_k3.N)))], [(5, .var (y5_k3) []), (13, .arr 50 (y13_k3))]⟩) ⟨rfl, rfl, rfl, rfl, trivial⟩ ⟨rfl, rfl, trivial⟩ ?_
                  refine PT.skip ?_
                  obtain ⟨hb22, hφ⟩ := G_some hφ
                  refine PT.region ?_
                  refine Ops.put rfl rfl (ox_move .tmp) (.one rfl) (.nil) rfl ?_
                  refine Ops.put rfl rfl (ox_move .tmp) (.one rfl) (.nil) rfl ?_
                  refine Ops.put rfl rfl (ox_move .tmp) (.one rfl) (.nil) rfl ?_
                  refine Ops.put rfl rfl (ox_index_arr s44 .tmp .tmp hb22.1 hb22.2) ((.app (.one rfl) (.one rfl))) (.one rfl) rfl ?_
                  refine Ops.put rfl rfl (ox_fieldAddr_aptr Write_N f50_1) (.one rfl) (.nil) rfl ?_
                  refine Ops.mute rfl rfl (ox_store_ax t3 .tmp hb22) ((.cons rfl (.one rfl))) (.one rfl) ?_
                  refine Ops.nil ?_
                  refine PT.sub (σ' := ⟨[(5, _), (6, _), (7, .val (x7_k3))], [(5, .var (y5_k3) []), (13, .arr 50 ((up y13_k3 x7_k3 { (ix y13_k3 x7_k3) with N := (x8_k3 + y3_k3.N) })))]⟩) ⟨rfl, rfl, rfl, trivial⟩ ⟨rfl, rfl, trivial⟩ ?_
                  exact PT.meet (x7_k3, y5_k3, (up y13_k3 x7_k3 { (ix y13_k3 x7_k3) with N := (x8_k3 + y3_k3.N) })) hφ ⟨rfl, rfl, rfl, trivial⟩ ⟨rfl, rfl, trivial⟩
              · replace hφ := if_else hφ hc19
                refine PT.sub (σ' := ⟨[(3, _), (5, _), (6, _), (7, .val (x7_k3)), (69, .val (y3_k3.Kind))], [(3, .var (y3_k3) []), (5, .var (y5_k3) []), (13, .arr 50 (y13_k3))]⟩) ⟨rfl, rfl, rfl, rfl, rfl, trivial⟩ ⟨rfl, rfl, rfl, trivial⟩ ?_
                refine PT.seq ?_
                refine PT.region ?_
                refine Ops.put rfl rfl (ox_eql .tmp .int) ((.app (.one rfl) (.nil))) (.nil) rfl ?_
                refine Ops.put rfl rfl (ox_assign .tmp) (.one rfl) (.nil) rfl ?_
                refine Ops.nil ?_
                refine PT.sub (σ' := ⟨[(3, _), (5, _), (6, _), (7, .val (x7_k3)), (106, .val ((decide (y3_k3.Kind = (6 : Int)))))], [(3, .var (y3_k3) []), (5, .var (y5_k3) []), (13, .arr 50 (y13_k3))]⟩) ⟨rfl, rfl, rfl, rfl, rfl, trivial⟩ ⟨rfl, rfl, rfl, trivial⟩ ?_
                refine PT.cond _ rfl (fun hc23 => ?_) (fun hc23 => ?_)
                · replace hφ := if_then hφ hc23
                  refine PT.sub (σ' := ⟨[(3, _), (5, _), (6, _), (7, .val (x7_k3))], [(3, .var (y3_k3) []), (5, .var (y5_k3) []), (13, .arr 50 (y13_k3))]⟩) ⟨rfl, rfl, rfl, rfl, trivial⟩ ⟨rfl, rfl, rfl, trivial⟩ ?_
                  refine PT.seq ?_
                  obtain ⟨v24, hv24, hφ⟩ := B_some hφ
                  refine PT.region ?_
                  refine Ops.put rfl rfl (ox_move .tmp) (.one rfl) (.nil) rfl ?_
                  refine Ops.put rfl rfl (ox_fieldAddr_var Call_Other f23_2) (.one rfl) (.nil) rfl ?_
                  refine Ops.put rfl rfl (ox_load_fld t3) (.one rfl) (.one rfl) rfl ?_
                  refine Ops.put rfl rfl (ox_callL (id := 13) (c_model_entry hv24) flat_int (.lent .tmp (.cons .tmp .nil))) ((.app (.one rfl) (.app (.one rfl) .nil))) (.one rfl) rfl ?_
                  refine Ops.put rfl rfl (ox_assign .tmp) (.one rfl) (.nil) rfl ?_
                  refine Ops.nil ?_
                  refine PT.sub (σ' := ⟨[(5, _), (6, _), (7, .val (x7_k3)), (11, .val (v24))], [(5, .var (y5_k3) []), (13, .arr 50 (y13_k3))]⟩) ⟨rfl, rfl, rfl, rfl, trivial⟩ ⟨rfl, rfl, trivial⟩ ?_
                  refine PT.seq ?_
                  refine PT.seq ?_
                  refine PT.region ?_
                  refine Ops.put rfl rfl (ox_move .tmp) (.one rfl) (.nil) rfl ?_
                  refine Ops.put rfl rfl (ox_lss .tmp .int) ((.app (.one rfl) (.nil))) (.nil) rfl ?_
                  refine Ops.nil ?_
                  refine PT.sub (σ' := ⟨[(5, _), (6, _), (7, .val (x7_k3)), (11, .val (v24)), (113, .val ((decide (v24 < (0 : Int)))))], [(5, .var (y5_k3) []), (13, .arr 50 (y13_k3))]⟩) ⟨rfl, rfl, rfl, rfl, rfl, trivial⟩ ⟨rfl, rfl, trivial⟩ ?_
                  refine PT.cond _ rfl (fun hc25 => ?_) (fun hc25 => ?_)
                  · replace hφ := if_then hφ hc25
                    refine PT.sub (σ' := ⟨[(5, _), (6, _)], [(5, .var (y5_k3) []), (13, .arr 50 (y13_k3))]⟩) ⟨rfl, rfl, trivial⟩ ⟨rfl, rfl, trivial⟩ ?_
                    refine PT.seq ?_
                    refine PT.region ?_
                    refine Ops.put rfl rfl (ox_move .tmp) (.one rfl) (.nil) rfl ?_
                    refine Ops.put rfl rfl (ox_buildB z28 u28 rfl (.cons Reply_Err f28_0 .int Bld.nil)) ((.app (.nil) .nil)) (.nil) rfl ?_
                    refine Ops.put rfl rfl (ox_assign .tmp) (.one rfl) (.nil) rfl ?_
                    refine Ops.mute rfl rfl (ox_store_var t28 .tmp) ((.cons rfl (.one rfl))) (.one rfl) ?_
                    refine Ops.nil ?_
                    refine PT.sub (σ' := ⟨[(4, _), (5, _)], [(5, .var (({ Err := (6 : Int), N := (0 : Int) } : Mk.Reply)) []), (13, .arr 50 (y13_k3))]⟩) ⟨rfl, rfl, trivial⟩ ⟨rfl, rfl, trivial⟩ ?_
                    refine PT.ret ?_
                    refine PT.freeze 13 [4] rfl ⟨rfl, trivial⟩ ?_
                    obtain rfl := Option.some.inj hφ
                    exact PT.done hw0 rfl (.tmp rfl rfl (.cell t28 rfl rfl .nil)) rfl
                  · replace hφ := if_else hφ hc25
                    refine PT.sub (σ' := ⟨[(5, _), (6, _), (7, .val (x7_k3)), (11, .val (v24))], [(5, .var (y5_k3) []), (13, .arr 50 (y13_k3))]⟩) ⟨rfl, rfl, rfl, rfl, trivial⟩ ⟨rfl, rfl, trivial⟩ ?_
                    refine PT.skip ?_
                    obtain ⟨hb26, hφ⟩ := G_some hφ
                    obtain ⟨hb27, hφ⟩ := G_some hφ
                    obtain ⟨hb28, hφ⟩ := G_some hφ
                    obtain ⟨hb29, hφ⟩ := G_some hφ
                    refine PT.draw hMixed (
                        Segs.cons (Step.put rfl rfl (ox_move .tmp)) ⟨.one rfl, .nil⟩ (by kernel_rfl) rfl <|
                        Segs.cons (Step.put rfl rfl (ox_move .tmp)) ⟨.one rfl, .nil⟩ (by kernel_rfl) rfl <|
                        Segs.cons (Step.put rfl rfl (ox_move .tmp)) ⟨.one rfl, .nil⟩ (by kernel_rfl) rfl <|
                        Segs.cons (Step.put rfl rfl (ox_move .tmp)) ⟨.one rfl, .nil⟩ (by kernel_rfl) rfl <|
                        Segs.cons (Step.put rfl rfl (ox_move .tmp)) ⟨.one rfl, .nil⟩ (by kernel_rfl) rfl <|
                        Segs.cons (Step.put rfl rfl (ox_move .tmp)) ⟨.one rfl, .nil⟩ (by kernel_rfl) rfl <|
                        Segs.cons (Step.put rfl rfl (ox_index_arr s44 .tmp .tmp hb26.1 hb26.2)) ⟨(.app (.one rfl) (.one rfl)), .one rfl⟩ (by kernel_rfl) rfl <|
                        Segs.cons (Step.put rfl rfl (ox_fieldAddr_aptr Write_N f50_1)) ⟨.one rfl, .nil⟩ (by kernel_rfl) rfl <|
                        Segs.cons (Step.put rfl rfl (ox_load_ax t3 hb26)) ⟨.one rfl, .one rfl⟩ (by kernel_rfl) rfl <|
                        Segs.cons (Step.put rfl rfl (ox_move .tmp)) ⟨.one rfl, .nil⟩ (by kernel_rfl) rfl <|
                        Segs.cons (Step.put rfl rfl (ox_move .tmp)) ⟨.one rfl, .nil⟩ (by kernel_rfl) rfl <|
                        Segs.cons (Step.put rfl rfl (ox_index_arr s44 .tmp .tmp hb27.1 hb27.2)) ⟨(.app (.one rfl) (.one rfl)), .one rfl⟩ (by kernel_rfl) rfl <|
                        Segs.cons (Step.put rfl rfl (ox_fieldAddr_aptr Write_N f50_1)) ⟨.one rfl, .nil⟩ (by kernel_rfl) rfl <|
                        Segs.cons (Step.put rfl rfl (ox_load_ax t3 hb27)) ⟨.one rfl, .one rfl⟩ (by kernel_rfl) rfl <|
                        Segs.cons (Step.put rfl rfl (ox_index_arr s44 .tmp .tmp hb28.1 hb28.2)) ⟨(.app (.one rfl) (.one rfl)), .one rfl⟩ (by kernel_rfl) rfl <|
                        Segs.cons (Step.put rfl rfl (ox_fieldAddr_aptr Write_N f50_1)) ⟨.one rfl, .nil⟩ (by kernel_rfl) rfl <|
                        Segs.cons (Step.mute rfl rfl (ox_store_ax t3 .tmp hb28)) ⟨(.cons rfl (.one rfl)), .one rfl⟩ (by kernel_rfl) rfl <|
                        Segs.cons (Step.put rfl rfl (ox_index_arr s44 .tmp .tmp hb29.1 hb29.2)) ⟨(.app (.one rfl) (.one rfl)), .one rfl⟩ (by kernel_rfl) rfl <|
                        Segs.cons (Step.put rfl rfl (ox_fieldAddr_aptr Write_N f50_1)) ⟨.one rfl, .nil⟩ (by kernel_rfl) rfl <|
                        Segs.cons (Step.mute rfl rfl (ox_store_ax t3 .tmp hb29)) ⟨(.cons rfl (.one rfl)), .one rfl⟩ (by kernel_rfl) rfl <|
                        Segs.nil) _ [[], [], [], [], [], [], [4, 5], [4, 5, 6], [4, 5, 6, 7], [], [], [9, 10], [9, 10, 11], [9, 10, 11, 12], [0, 1, 4, 5, 6, 7, 8, 9, 10, 11, 12, 13], [0, 1, 4, 5, 6, 7, 8, 9, 10, 11, 12, 13, 14], [0, 1, 4, 5, 6, 7, 8, 9, 10, 11, 12, 13, 14, 15], [0, 1, 2, 3, 4, 5, 6, 7, 8, 9, 10, 11, 12, 13, 14, 15, 16], [0, 1, 2, 3, 4, 5, 6, 7, 8, 9, 10, 11, 12, 13, 14, 15, 16, 17], [0, 1, 2, 3, 4, 5, 6, 7, 8, 9, 10, 11, 12, 13, 14, 15, 16, 17, 18]] rfl (by kernel_rfl) (by kernel_rfl) ?_
                    refine PT.sub (σ' := ⟨[(5, _), (6, _), (7, .val (x7_k3))], [(5, .var (y5_k3) []), (13, .arr 50 ((up (up y13_k3 x7_k3 { (ix y13_k3 x7_k3) with N := (ix y13_k3 v24).N }) v24 { (ix (up y13_k3 x7_k3 { (ix y13_k3 x7_k3) with N := (ix y13_k3 v24).N }) v24) with N := (ix y13_k3 x7_k3).N })))]⟩) ⟨rfl, rfl, rfl, trivial⟩ ⟨rfl, rfl, trivial⟩ ?_
                    exact PT.meet (x7_k3, y5_k3, (up (up y13_k3 x7_k3 { (ix y13_k3 x7_k3) with N := (ix y13_k3 v24).N }) v24 { (ix (up y13_k3 x7_k3 { (ix y13_k3 x7_k3) with N := (ix y13_k3 v24).N }) v24) with N := (ix y13_k3 x7_k3).N })) hφ ⟨rfl, rfl, rfl, trivial⟩ ⟨rfl, rfl, trivial⟩
                · replace hφ := if_else hφ hc23
                  refine PT.sub (σ' := ⟨[(5, _), (6, _), (7, .val (x7_k3))], [(5, .var (y5_k3) []), (13, .arr 50 (y13_k3))]⟩) ⟨rfl, rfl, rfl, trivial⟩ ⟨rfl, rfl, trivial⟩ ?_
                  refine PT.skip ?_
                  exact PT.meet (x7_k3, y5_k3, y13_k3) hφ ⟨rfl, rfl, rfl, trivial⟩ ⟨rfl, rfl, trivial⟩
          · rintro ⟨x7_k13, y5_k13, y13_k13⟩ hφ
            subst hk13
            refine PT.sub (σ' := ⟨[(5, .ptr 5 (Lens.id (α := Mk.Reply))), (6, .sl 13), (7, .val (x7_k13))], [(5, .var (y5_k13) []), (13, .arr 50 (y13_k13))]⟩) ⟨rfl, rfl, rfl, trivial⟩ ⟨rfl, rfl, trivial⟩ ?_
            refine PT.seq ?_
            obtain ⟨hb30, hφ⟩ := G_some hφ
            refine PT.draw hMixed (
                Segs.cons (Step.put rfl rfl (ox_move .tmp)) ⟨.one rfl, .nil⟩ (by kernel_rfl) rfl <|
                Segs.cons (Step.put rfl rfl (ox_move .tmp)) ⟨.one rfl, .nil⟩ (by kernel_rfl) rfl <|
                Segs.cons (Step.put rfl rfl (ox_move .tmp)) ⟨.one rfl, .nil⟩ (by kernel_rfl) rfl <|
                Segs.cons (Step.put rfl rfl (ox_index_arr s44 .tmp .tmp hb30.1 hb30.2)) ⟨(.app (.one rfl) (.one rfl)), .one rfl⟩ (by kernel_rfl) rfl <|
                Segs.cons (Step.put rfl rfl (ox_fieldAddr_aptr Write_N f50_1)) ⟨.one rfl, .nil⟩ (by kernel_rfl) rfl <|
                Segs.cons (Step.put rfl rfl (ox_load_ax t3 hb30)) ⟨.one rfl, .one rfl⟩ (by kernel_rfl) rfl <|
                Segs.cons (Step.put rfl rfl (ox_buildB z28 u28 rfl (.cons Reply_N f28_1 .tmp Bld.nil))) ⟨(.app (.one rfl) .nil), .nil⟩ (by kernel_rfl) rfl <|
                Segs.cons (Step.put rfl rfl (ox_assign .tmp)) ⟨.one rfl, .nil⟩ (by kernel_rfl) rfl <|
                Segs.cons (Step.mute rfl rfl (ox_store_var t28 .tmp)) ⟨(.cons rfl (.one rfl)), .one rfl⟩ (by kernel_rfl) rfl <|
                Segs.nil) _ [[], [], [], [1, 2], [1, 2, 3], [1, 2, 3, 4], [1, 2, 3, 4, 5], [0], [0, 1, 2, 3, 4, 5, 6, 7]] rfl (by kernel_rfl) (by kernel_rfl) ?_
            refine PT.sub (σ' := ⟨[(4, _), (5, _)], [(5, .var (({ Err := (0 : Int), N := (ix y13_k13 x7_k13).N } : Mk.Reply)) []), (13, .arr 50 (y13_k13))]⟩) ⟨rfl, rfl, trivial⟩ ⟨rfl, rfl, trivial⟩ ?_
            refine PT.ret ?_
            refine PT.freeze 13 [4] rfl ⟨rfl, trivial⟩ ?_
            obtain rfl := Option.some.inj hφ
            exact PT.done hw0 rfl (.tmp rfl rfl (.cell t28 rfl rfl .nil)) rfl
theorem c_model_Of {a0 : List Int} {r : ((List Mk.Write))} (hφ : model_Of a0 = some r) : Fn Go.Proofs.Try.prog 81 [.val a0] (.val r) := by
  unfold model_Of at hφ
  refine Fn.mk' Go.Proofs.Try.func81 rfl (by decide) rfl rfl rfl (fun w0 hw0 => ?_)
  refine PT.seq ?_
  refine PT.region ?_
  refine Ops.put rfl rfl (ox_assign .nilS) (.nil) (.nil) rfl ?_
  refine Ops.nil ?_
  refine PT.sub (σ' := ⟨[(0, .val (a0))], []⟩) ⟨rfl, trivial⟩ trivial ?_
  refine PT.seq ?_
  refine PT.region ?_
  refine Ops.put rfl rfl (ox_assign .nilS) (.nil) (.nil) rfl ?_
  refine Ops.nil ?_
  refine PT.sub (σ' := ⟨[(0, .val (a0)), (3, .nilS)], []⟩) ⟨rfl, rfl, trivial⟩ trivial ?_
  obtain ⟨k1, hk1, hφ⟩ := J_some hφ
  refine PT.cut (ι := (List Mk.Write)) (fun p => ⟨[(3, .sl 1003)], [(1003, .arr 50 (p))]⟩) (fun p => k1 (p) = some r) ?_ ?_
  · skip
    refine PT.seq ?_
    obtain ⟨hb2, hφ⟩ := G_some hφ
    refine PT.region ?_
    refine Ops.put rfl rfl (ox_move .tmp) (.one rfl) (.nil) rfl ?_
    refine Ops.put rfl rfl (ox_ix s43 .tmp .int hb2.1 hb2.2) ((.app (.one rfl) (.nil))) (.nil) rfl ?_
    refine Ops.put rfl rfl (ox_load_elem t3) (.one rfl) (.nil) rfl ?_
    refine Ops.put rfl rfl (ox_move .int) (.nil) (.nil) rfl ?_
    refine Ops.nil ?_
    refine PT.sub (σ' := ⟨[(0, .val (a0)), (3, .nilS), (7, .val ((ix a0 (0 : Int)))), (8, .val ((0 : Int)))], []⟩) ⟨rfl, rfl, rfl, rfl, trivial⟩ trivial ?_
    refine PT.block ?_
    refine PT.nilArr 1003 3 50 (Mk.Write) rfl (by kernel_rfl) ?_
    refine PT.loop (ι := Nat × (List Int) × Int × Int × (List Mk.Write)) (fun p => ⟨[(0, .val (p.2.1)), (3, .sl 1003), (7, .val (p.2.2.1)), (8, .val (p.2.2.2.1))], [(1003, .arr 50 (p.2.2.2.2))]⟩) (fun p => model_Of_l1 k1 p.1 (p.2.1) (p.2.2.1) (p.2.2.2.1) (p.2.2.2.2) = some r) (fun p => p.1) (((ix a0 (0 : Int)) - (0 : Int)).toNat + 1, a0, (ix a0 (0 : Int)), (0 : Int), ([] : List Mk.Write)) hφ ⟨rfl, rfl, rfl, rfl, trivial⟩ ⟨rfl, trivial⟩ ?_
    rintro ⟨m3, x0_m3, x7_m3, x8_m3, y1003_m3⟩ (hφ : model_Of_l1 k1 m3 x0_m3 x7_m3 x8_m3 y1003_m3 = some r)
    obtain _ | m3 := m3
    · exact (none_no hφ).elim
    rw [model_Of_l1.eq_2] at hφ
    refine PT.sub (σ' := ⟨[(0, .val (x0_m3)), (3, .sl 1003), (7, .val (x7_m3)), (8, .val (x8_m3))], [(1003, .arr 50 (y1003_m3))]⟩) ⟨rfl, rfl, rfl, rfl, trivial⟩ ⟨rfl, trivial⟩ ?_
    refine PT.seq ?_
    refine PT.region ?_
    refine Ops.put rfl rfl (ox_lss .tmp .tmp) ((.app (.one rfl) (.one rfl))) (.nil) rfl ?_
    refine Ops.nil ?_
    refine PT.sub (σ' := ⟨[(0, .val (x0_m3)), (3, _), (7, .val (x7_m3)), (8, .val (x8_m3)), (9, .val ((decide (x8_m3 < x7_m3))))], [(1003, .arr 50 (y1003_m3))]⟩) ⟨rfl, rfl, rfl, rfl, rfl, trivial⟩ ⟨rfl, trivial⟩ ?_
    refine PT.seq ?_
    refine PT.cond _ rfl (fun hc4 => ?_) (fun hc4 => ?_)
    · replace hφ := if_then hφ hc4
      refine PT.sub (σ' := ⟨[(0, .val (x0_m3)), (3, _), (7, .val (x7_m3)), (8, .val (x8_m3))], [(1003, .arr 50 (y1003_m3))]⟩) ⟨rfl, rfl, rfl, rfl, trivial⟩ ⟨rfl, trivial⟩ ?_
      refine PT.skip ?_
      refine PT.seq ?_
      refine PT.block ?_
      refine PT.seq ?_
      refine PT.region ?_
      refine Ops.put rfl rfl (ox_move .tmp) (.one rfl) (.nil) rfl ?_
      refine Ops.put rfl rfl (ox_assign .tmp) (.one rfl) (.nil) rfl ?_
      refine Ops.nil ?_
      refine PT.sub (σ' := ⟨[(0, .val (x0_m3)), (3, _), (4, .val (x8_m3)), (7, .val (x7_m3)), (8, .val (x8_m3))], [(1003, .arr 50 (y1003_m3))]⟩) ⟨rfl, rfl, rfl, rfl, rfl, trivial⟩ ⟨rfl, trivial⟩ ?_
      obtain ⟨hb5, hφ⟩ := G_some hφ
      obtain ⟨hb6, hφ⟩ := G_some hφ
      obtain ⟨hb7, hφ⟩ := G_some hφ
      obtain ⟨hb8, hφ⟩ := G_some hφ
      obtain ⟨hb9, hφ⟩ := G_some hφ
      obtain ⟨hb10, hφ⟩ := G_some hφ
      obtain ⟨hb11, hφ⟩ := G_some hφ
      refine PT.draw hMixed (
          Segs.cons (Step.put rfl rfl (ox_move .tmp)) ⟨.one rfl, .nil⟩ (by kernel_rfl) rfl <|
          Segs.cons (Step.put rfl rfl (ox_move .tmp)) ⟨.one rfl, .nil⟩ (by kernel_rfl) rfl <|
          Segs.cons (Step.put rfl rfl (ox_move .tmp)) ⟨.one rfl, .nil⟩ (by kernel_rfl) rfl <|
          Segs.cons (Step.put rfl rfl (ox_mul .int .tmp hb5)) ⟨(.app (.nil) (.one rfl)), .nil⟩ (by kernel_rfl) rfl <|
          Segs.cons (Step.put rfl rfl (ox_add .int .tmp hb6)) ⟨(.app (.nil) (.one rfl)), .nil⟩ (by kernel_rfl) rfl <|
          Segs.cons (Step.put rfl rfl (ox_ix s43 .tmp .tmp hb7.1 hb7.2)) ⟨(.app (.one rfl) (.one rfl)), .nil⟩ (by kernel_rfl) rfl <|
          Segs.cons (Step.put rfl rfl (ox_load_elem t3)) ⟨.one rfl, .nil⟩ (by kernel_rfl) rfl <|
          Segs.cons (Step.put rfl rfl (ox_move .tmp)) ⟨.one rfl, .nil⟩ (by kernel_rfl) rfl <|
          Segs.cons (Step.put rfl rfl (ox_move .tmp)) ⟨.one rfl, .nil⟩ (by kernel_rfl) rfl <|
          Segs.cons (Step.put rfl rfl (ox_mul .int .tmp hb8)) ⟨(.app (.nil) (.one rfl)), .nil⟩ (by kernel_rfl) rfl <|
          Segs.cons (Step.put rfl rfl (ox_add .int .tmp hb9)) ⟨(.app (.nil) (.one rfl)), .nil⟩ (by kernel_rfl) rfl <|
          Segs.cons (Step.put rfl rfl (ox_ix s43 .tmp .tmp hb10.1 hb10.2)) ⟨(.app (.one rfl) (.one rfl)), .nil⟩ (by kernel_rfl) rfl <|
          Segs.cons (Step.put rfl rfl (ox_load_elem t3)) ⟨.one rfl, .nil⟩ (by kernel_rfl) rfl <|
          Segs.cons (Step.put rfl rfl (ox_buildB z50 u50 rfl (.cons Write_At f50_0 .tmp (.cons Write_N f50_1 .tmp Bld.nil)))) ⟨(.app (.one rfl) (.app (.one rfl) .nil)), .nil⟩ (by kernel_rfl) rfl <|
          Segs.cons (Step.put rfl rfl (ox_buildSlice_val s44 z50 (.cons .tmp Parts.nil) rfl (by decide))) ⟨(.app (.one rfl) .nil), .nil⟩ (by kernel_rfl) rfl <|
          Segs.cons (Step.putK [3, 11] rfl rfl (ox_append a44 .tmp .tmp hb11.1 hb11.2)) ⟨(.app (.one rfl) (.one rfl)), .one rfl⟩ (by kernel_rfl) rfl <|
          Segs.cons (Step.put rfl rfl (ox_assign .tmp)) ⟨.one rfl, .nil⟩ (by kernel_rfl) rfl <|
          Segs.nil) _ [[], [], [], [2], [2, 3], [1, 2, 3, 4], [1, 2, 3, 4, 5], [], [], [8], [8, 9], [7, 8, 9, 10], [7, 8, 9, 10, 11], [1, 2, 3, 4, 5, 6, 7, 8, 9, 10, 11, 12], [1, 2, 3, 4, 5, 6, 7, 8, 9, 10, 11, 12, 13], [0, 1, 2, 3, 4, 5, 6, 7, 8, 9, 10, 11, 12, 13, 14], [0, 1, 2, 3, 4, 5, 6, 7, 8, 9, 10, 11, 12, 13, 14, 15]] rfl (by kernel_rfl) (by kernel_rfl) ?_
      refine PT.sub (σ' := ⟨[(0, .val (x0_m3)), (3, _), (7, .val (x7_m3)), (8, .val (x8_m3))], [(1003, .arr 50 ((y1003_m3 ++ ([({ At := (ix x0_m3 ((1 : Int) + ((2 : Int) * x8_m3))), N := (ix x0_m3 ((2 : Int) + ((2 : Int) * x8_m3))) } : Mk.Write)] : List Mk.Write))))]⟩) ⟨rfl, rfl, rfl, rfl, trivial⟩ ⟨rfl, trivial⟩ ?_
      obtain ⟨hb12, hφ⟩ := G_some hφ
      refine PT.region ?_
      refine Ops.put rfl rfl (ox_add .tmp .int hb12) ((.app (.one rfl) (.nil))) (.nil) rfl ?_
      refine Ops.put rfl rfl (ox_move .tmp) (.one rfl) (.nil) rfl ?_
      refine Ops.nil ?_
      refine PT.sub (σ' := ⟨[(0, .val (x0_m3)), (3, _), (7, .val (x7_m3)), (8, .val ((x8_m3 + (1 : Int))))], [(1003, .arr 50 ((y1003_m3 ++ ([({ At := (ix x0_m3 ((1 : Int) + ((2 : Int) * x8_m3))), N := (ix x0_m3 ((2 : Int) + ((2 : Int) * x8_m3))) } : Mk.Write)] : List Mk.Write))))]⟩) ⟨rfl, rfl, rfl, rfl, trivial⟩ ⟨rfl, trivial⟩ ?_
      exact PT.next (m3, x0_m3, x7_m3, (x8_m3 + (1 : Int)), (y1003_m3 ++ ([({ At := (ix x0_m3 ((1 : Int) + ((2 : Int) * x8_m3))), N := (ix x0_m3 ((2 : Int) + ((2 : Int) * x8_m3))) } : Mk.Write)] : List Mk.Write))) hφ (Nat.lt_succ_self _) ⟨rfl, rfl, rfl, rfl, trivial⟩ ⟨rfl, trivial⟩
    · replace hφ := if_else hφ hc4
      refine PT.sub (σ' := ⟨[(3, _)], [(1003, .arr 50 (y1003_m3))]⟩) ⟨rfl, trivial⟩ ⟨rfl, trivial⟩ ?_
      refine PT.exit ?_
      exact PT.meet (y1003_m3) hφ ⟨rfl, trivial⟩ ⟨rfl, trivial⟩
  · rintro y1003_k1 hφ
    subst hk1
    refine PT.sub (σ' := ⟨[(3, .sl 1003)], [(1003, .arr 50 (y1003_k1))]⟩) ⟨rfl, trivial⟩ ⟨rfl, trivial⟩ ?_
    refine PT.seq ?_
    refine PT.region ?_
    refine Ops.put rfl rfl (ox_move .tmp) (.one rfl) (.nil) rfl ?_
    refine Ops.put rfl rfl (ox_assign .tmp) (.one rfl) (.nil) rfl ?_
    refine Ops.nil ?_
    refine PT.sub (σ' := ⟨[(2, _)], [(1003, .arr 50 (y1003_k1))]⟩) ⟨rfl, trivial⟩ ⟨rfl, trivial⟩ ?_
    refine PT.ret ?_
    refine PT.freeze 1003 [2] rfl ⟨rfl, trivial⟩ ?_
    obtain rfl := Option.some.inj hφ
    exact PT.done hw0 rfl (.tmp rfl rfl .nil) rfl
theorem c_model_All {a0 : List Mk.Request} {r : ((List Mk.Write) × (List Mk.Reply))} (hφ : model_All a0 = some r) : Fn Go.Proofs.Try.prog 83 [.val a0] (.tup [.val r.1, .val r.2]) := by
  unfold model_All at hφ
  refine Fn.mk' Go.Proofs.Try.func83 rfl (by decide) rfl rfl rfl (fun w0 hw0 => ?_)
  refine PT.seq ?_
  refine PT.region ?_
  refine Ops.put rfl rfl (ox_assign .nilS) (.nil) (.nil) rfl ?_
  refine Ops.put rfl rfl (ox_assign .nilS) (.nil) (.nil) rfl ?_
  refine Ops.nil ?_
  refine PT.sub (σ' := ⟨[(0, .val (a0))], []⟩) ⟨rfl, trivial⟩ trivial ?_
  refine PT.seq ?_
  refine PT.region ?_
  refine Ops.put rfl rfl (ox_assign .nilS) (.nil) (.nil) rfl ?_
  refine Ops.nil ?_
  refine PT.sub (σ' := ⟨[(0, .val (a0)), (4, .nilS)], []⟩) ⟨rfl, rfl, trivial⟩ trivial ?_
  refine PT.seq ?_
  refine PT.region ?_
  refine Ops.put rfl rfl (ox_assign .nilS) (.nil) (.nil) rfl ?_
  refine Ops.nil ?_
  refine PT.sub (σ' := ⟨[(0, .val (a0)), (4, .nilS), (5, .nilS)], []⟩) ⟨rfl, rfl, rfl, trivial⟩ trivial ?_
  obtain ⟨k1, hk1, hφ⟩ := J_some hφ
  refine PT.cut (ι := (List Mk.Write) × (List Mk.Reply)) (fun p => ⟨[(4, .val (p.1)), (5, .sl 1005)], [(1005, .arr 28 (p.2))]⟩) (fun p => k1 (p.1) (p.2) = some r) ?_ ?_
  · skip
    refine PT.seq ?_
    refine PT.region ?_
    refine Ops.put rfl rfl (ox_move .tmp) (.one rfl) (.nil) rfl ?_
    refine Ops.put rfl rfl (ox_len s46 .tmp) (.one rfl) (.nil) rfl ?_
    refine Ops.put rfl rfl (ox_move .int) (.nil) (.nil) rfl ?_
    refine Ops.nil ?_
    refine PT.sub (σ' := ⟨[(4, .nilS), (5, .nilS), (10, .val (a0)), (11, .val ((a0.length : Int))), (12, .val ((0 : Int)))], []⟩) ⟨rfl, rfl, rfl, rfl, rfl, trivial⟩ trivial ?_
    refine PT.block ?_
    refine PT.asNil 4 (Mk.Write) rfl ?_
    refine PT.nilArr 1005 5 28 (Mk.Reply) rfl (by kernel_rfl) ?_
    refine PT.loop (ι := Nat × (List Mk.Write) × (List Mk.Request) × Int × Int × (List Mk.Reply)) (fun p => ⟨[(4, .val (p.2.1)), (5, .sl 1005), (10, .val (p.2.2.1)), (11, .val (p.2.2.2.1)), (12, .val (p.2.2.2.2.1))], [(1005, .arr 28 (p.2.2.2.2.2))]⟩) (fun p => model_All_l1 k1 p.1 (p.2.1) (p.2.2.1) (p.2.2.2.1) (p.2.2.2.2.1) (p.2.2.2.2.2) = some r) (fun p => p.1) (((a0.length : Int) - (0 : Int)).toNat + 1, ([] : List Mk.Write), a0, (a0.length : Int), (0 : Int), ([] : List Mk.Reply)) hφ ⟨rfl, rfl, rfl, rfl, rfl, trivial⟩ ⟨rfl, trivial⟩ ?_
    rintro ⟨m2, x4_m2, x10_m2, x11_m2, x12_m2, y1005_m2⟩ (hφ : model_All_l1 k1 m2 x4_m2 x10_m2 x11_m2 x12_m2 y1005_m2 = some r)
    obtain _ | m2 := m2
    · exact (none_no hφ).elim
    rw [model_All_l1.eq_2] at hφ
    refine PT.sub (σ' := ⟨[(4, .val (x4_m2)), (5, .sl 1005), (10, .val (x10_m2)), (11, .val (x11_m2)), (12, .val (x12_m2))], [(1005, .arr 28 (y1005_m2))]⟩) ⟨rfl, rfl, rfl, rfl, rfl, trivial⟩ ⟨rfl, trivial⟩ ?_
    refine PT.seq ?_
    refine PT.region ?_
    refine Ops.put rfl rfl (ox_lss .tmp .tmp) ((.app (.one rfl) (.one rfl))) (.nil) rfl ?_
    refine Ops.nil ?_
    refine PT.sub (σ' := ⟨[(4, .val (x4_m2)), (5, _), (10, .val (x10_m2)), (11, .val (x11_m2)), (12, .val (x12_m2)), (13, .val ((decide (x12_m2 < x11_m2))))], [(1005, .arr 28 (y1005_m2))]⟩) ⟨rfl, rfl, rfl, rfl, rfl, rfl, trivial⟩ ⟨rfl, trivial⟩ ?_
    refine PT.seq ?_
    refine PT.cond _ rfl (fun hc3 => ?_) (fun hc3 => ?_)
    · replace hφ := if_then hφ hc3
      refine PT.sub (σ' := ⟨[(4, .val (x4_m2)), (5, _), (10, .val (x10_m2)), (11, .val (x11_m2)), (12, .val (x12_m2))], [(1005, .arr 28 (y1005_m2))]⟩) ⟨rfl, rfl, rfl, rfl, rfl, trivial⟩ ⟨rfl, trivial⟩ ?_
      refine PT.skip ?_
      refine PT.seq ?_
      refine PT.block ?_
      refine PT.seq ?_
      obtain ⟨hb4, hφ⟩ := G_some hφ
      refine PT.region ?_
      refine Ops.put rfl rfl (ox_ix s46 .tmp .tmp hb4.1 hb4.2) ((.app (.one rfl) (.one rfl))) (.nil) rfl ?_
      refine Ops.put rfl rfl (ox_load_elem t25) (.one rfl) (.nil) rfl ?_
      refine Ops.putO rfl rfl (ox_alloc (id := 7) z25) (.nil) (.nil) rfl (by kernel_rfl) ?_
      refine Ops.mute rfl rfl (ox_store_var t25 .tmp) ((.cons rfl (.one rfl))) (.one rfl) ?_
      refine Ops.nil ?_
      refine PT.sub (σ' := ⟨[(4, .val (x4_m2)), (5, _), (7, _), (10, .val (x10_m2)), (11, .val (x11_m2)), (12, .val (x12_m2))], [(7, .var ((ix x10_m2 x12_m2)) []), (1005, .arr 28 (y1005_m2))]⟩) ⟨rfl, rfl, rfl, rfl, rfl, rfl, trivial⟩ ⟨rfl, rfl, trivial⟩ ?_
      refine PT.seq ?_
      obtain ⟨v5, hv5, hφ⟩ := B_some hφ
      refine PT.region ?_
      refine Ops.put rfl rfl (ox_move .tmp) (.one rfl) (.nil) rfl ?_
      refine Ops.put rfl rfl (ox_fieldAddr_var Request_Call f25_2) (.one rfl) (.nil) rfl ?_
      refine Ops.put rfl rfl (ox_load_fld t23) (.one rfl) (.one rfl) rfl ?_
      refine Ops.put rfl rfl (ox_call (c_model_Do hv5) (.cons .tmp (.cons .tmp .nil))) ((.app (.one rfl) (.app (.one rfl) .nil))) (.nil) rfl ?_
      refine Ops.put rfl rfl (ox_move .tmp) (.one rfl) (.nil) rfl ?_
      refine Ops.put rfl rfl (ox_extract rfl) (.one rfl) (.nil) rfl ?_
      refine Ops.put rfl rfl (ox_extract rfl) (.one rfl) (.nil) rfl ?_
      refine Ops.putO rfl rfl (ox_alloc (id := 9) z28) (.nil) (.nil) rfl (by kernel_rfl) ?_
      refine Ops.put rfl rfl (ox_assign .tmp) (.one rfl) (.nil) rfl ?_
      refine Ops.mute rfl rfl (ox_store_var t28 .tmp) ((.cons rfl (.one rfl))) (.one rfl) ?_
      refine Ops.nil ?_
      refine PT.sub (σ' := ⟨[(5, _), (8, .val (v5.1)), (9, _), (10, .val (x10_m2)), (11, .val (x11_m2)), (12, .val (x12_m2))], [(9, .var (v5.2) []), (1005, .arr 28 (y1005_m2))]⟩) ⟨rfl, rfl, rfl, rfl, rfl, rfl, trivial⟩ ⟨rfl, rfl, trivial⟩ ?_
      refine PT.seq ?_
      refine PT.region ?_
      refine Ops.put rfl rfl (ox_move .tmp) (.one rfl) (.nil) rfl ?_
      refine Ops.put rfl rfl (ox_assign .tmp) (.one rfl) (.nil) rfl ?_
      refine Ops.nil ?_
      refine PT.sub (σ' := ⟨[(4, .val (v5.1)), (5, _), (9, _), (10, .val (x10_m2)), (11, .val (x11_m2)), (12, .val (x12_m2))], [(9, .var (v5.2) []), (1005, .arr 28 (y1005_m2))]⟩) ⟨rfl, rfl, rfl, rfl, rfl, rfl, trivial⟩ ⟨rfl, rfl, trivial⟩ ?_
      obtain ⟨hb6, hφ⟩ := G_some hφ
      refine PT.region ?_
      refine Ops.put rfl rfl (ox_move .tmp) (.one rfl) (.nil) rfl ?_
      refine Ops.put rfl rfl (ox_load_var t28) (.one rfl) (.one rfl) rfl ?_
      refine Ops.put rfl rfl (ox_buildSlice_val s76 z28 (.cons .tmp Parts.nil) rfl (by decide)) ((.app (.one rfl) .nil)) (.nil) rfl ?_
      refine Ops.putK [5, 24] rfl rfl (ox_append a76 .tmp .tmp hb6.1 hb6.2) ((.app (.one rfl) (.one rfl))) (.one rfl) rfl (by kernel_rfl) ?_
      refine Ops.put rfl rfl (ox_assign .tmp) (.one rfl) (.nil) rfl ?_
      refine Ops.nil ?_
      refine PT.sub (σ' := ⟨[(4, .val (v5.1)), (5, _), (10, .val (x10_m2)), (11, .val (x11_m2)), (12, .val (x12_m2))], [(1005, .arr 28 ((y1005_m2 ++ ([v5.2] : List Mk.Reply))))]⟩) ⟨rfl, rfl, rfl, rfl, rfl, trivial⟩ ⟨rfl, trivial⟩ ?_
      obtain ⟨hb7, hφ⟩ := G_some hφ
      refine PT.region ?_
      refine Ops.put rfl rfl (ox_add .tmp .int hb7) ((.app (.one rfl) (.nil))) (.nil) rfl ?_
      refine Ops.put rfl rfl (ox_move .tmp) (.one rfl) (.nil) rfl ?_
      refine Ops.nil ?_
      refine PT.sub (σ' := ⟨[(4, .val (v5.1)), (5, _), (10, .val (x10_m2)), (11, .val (x11_m2)), (12, .val ((x12_m2 + (1 : Int))))], [(1005, .arr 28 ((y1005_m2 ++ ([v5.2] : List Mk.Reply))))]⟩) ⟨rfl, rfl, rfl, rfl, rfl, trivial⟩ ⟨rfl, trivial⟩ ?_
      exact PT.next (m2, v5.1, x10_m2, x11_m2, (x12_m2 + (1 : Int)), (y1005_m2 ++ ([v5.2] : List Mk.Reply))) hφ (Nat.lt_succ_self _) ⟨rfl, rfl, rfl, rfl, rfl, trivial⟩ ⟨rfl, trivial⟩
    · replace hφ := if_else hφ hc3
      refine PT.sub (σ' := ⟨[(4, .val (x4_m2)), (5, _)], [(1005, .arr 28 (y1005_m2))]⟩) ⟨rfl, rfl, trivial⟩ ⟨rfl, trivial⟩ ?_
      refine PT.exit ?_
      exact PT.meet (x4_m2, y1005_m2) hφ ⟨rfl, rfl, trivial⟩ ⟨rfl, trivial⟩
  · rintro ⟨x4_k1, y1005_k1⟩ hφ
    subst hk1
    refine PT.sub (σ' := ⟨[(4, .val (x4_k1)), (5, .sl 1005)], [(1005, .arr 28 (y1005_k1))]⟩) ⟨rfl, rfl, trivial⟩ ⟨rfl, trivial⟩ ?_
    refine PT.seq ?_
    refine PT.region ?_
    refine Ops.put rfl rfl (ox_move .tmp) (.one rfl) (.nil) rfl ?_
    refine Ops.put rfl rfl (ox_move .tmp) (.one rfl) (.nil) rfl ?_
    refine Ops.put rfl rfl (ox_assign .tmp) (.one rfl) (.nil) rfl ?_
    refine Ops.put rfl rfl (ox_assign .tmp) (.one rfl) (.nil) rfl ?_
    refine Ops.nil ?_
    refine PT.sub (σ' := ⟨[(2, .val (x4_k1)), (3, _)], [(1005, .arr 28 (y1005_k1))]⟩) ⟨rfl, rfl, trivial⟩ ⟨rfl, trivial⟩ ?_
    refine PT.ret ?_
    refine PT.freeze 1005 [3] rfl ⟨rfl, trivial⟩ ?_
    obtain rfl := Option.some.inj hφ
    exact PT.done hw0 rfl (.tmp rfl rfl (.tmp rfl rfl .nil)) rfl
end Go.Gx
end
