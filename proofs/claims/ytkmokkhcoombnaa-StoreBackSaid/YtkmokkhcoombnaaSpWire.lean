/- WHAT FUNCTIONS OF THE PROGRAM ANSWER, in plain Lean: printed by gen3.py. -/
import Derived.Test.YtkmokkhcoombnaaSpPlan
namespace Sp
set_option linter.unusedVariables false
/-- wire.who -/
def wire_who (a0 : Int) (a1 : Int) : Option Int :=
    (bif ((((decide (a0 < (0 : Int))) || (decide ((3 : Int) ≤ a0))) || (decide (a1 < (0 : Int)))) || (decide ((8 : Int) ≤ a1))) then (
        some ((3 : Int))) else (
        some ((0 : Int))))

/-- model.Wrong$1 -/
def model_Wrong_1 (a0 : Int) : Option Bool :=
    some (((decide ((1 : Int) ≤ a0)) && (decide (a0 ≤ (255 : Int)))))

/-- model.Wrong -/
def model_Wrong (a0 : Mk.Call) : Option Int :=
    (bif ((decide (a0.Kind < (1 : Int))) || (decide ((6 : Int) < a0.Kind))) then (
        some ((1 : Int))) else (
        J (fun (x13_k2 : Bool) (y1_k2 : Mk.Call) =>
          (bif x13_k2 then (
              some ((7 : Int))) else (
              (bif (((decide (y1_k2.N < (-1073741824 : Int))) || (decide ((1073741824 : Int) < y1_k2.N))) || (((!decide (y1_k2.Kind = (1 : Int))) && (!decide (y1_k2.Kind = (4 : Int)))) && (!decide (y1_k2.N = (0 : Int))))) then (
                  some ((3 : Int))) else (
                  some ((0 : Int))))))) (fun k2 =>
          (model_Wrong_1 (a0.Name)).bind (fun v3 =>
            (bif ((!decide ((!decide (a0.Kind = (5 : Int))) = v3)) || ((decide (a0.Kind = (5 : Int))) && (!decide (a0.Name = (0 : Int))))) then (
                k2 (((!decide ((!decide (a0.Kind = (5 : Int))) = v3)) || ((decide (a0.Kind = (5 : Int))) && (!decide (a0.Name = (0 : Int)))))) (a0)) else (
                (model_Wrong_1 (a0.Other)).bind (fun v5 =>
                  k2 (((!decide ((decide (a0.Kind = (6 : Int))) = v5)) || ((!decide (a0.Kind = (6 : Int))) && (!decide (a0.Other = (0 : Int)))))) (a0))))))))

/-- wire.WrongRequest -/
def wire_WrongRequest (a0 : Mk.Request) : Option Int :=
    (wire_who (a0.Client) (a0.Token)).bind (fun v1 =>
      (bif (!decide (v1 = (0 : Int))) then (
          some (v1)) else (
          (model_Wrong (a0.Call)).bind (fun v3 =>
            some (v3)))))

/-- mkref1.who -/
def mkref1_who (a0 : Int) (a1 : Int) : Option Bool :=
    some (((((decide ((0 : Int) ≤ a0)) && (decide (a0 < (3 : Int)))) && (decide ((0 : Int) ≤ a1))) && (decide (a1 < (8 : Int)))))

/-- mkref1.WrongRequest -/
def mkref1_WrongRequest (a0 : Mk.Request) : Option Int :=
    (mkref1_who (a0.Client) (a0.Token)).bind (fun v1 =>
      (bif (!v1) then (
          some ((3 : Int))) else (
          (mkref1_WrongCall (a0.Call)).bind (fun v3 =>
            some (v3)))))

/-- wire.WrongAnswer -/
def wire_WrongAnswer (a0 : Mk.Answer) : Option Int :=
    (wire_who (a0.Client) (a0.Token)).bind (fun v1 =>
      (bif (!decide (v1 = (0 : Int))) then (
          some (v1)) else (
          (bif (((((decide (a0.Reply.Err < (0 : Int))) || (decide ((12 : Int) < a0.Reply.Err))) || (decide (a0.Reply.N < (-1073741824 : Int)))) || (decide ((1073741824 : Int) < a0.Reply.N))) || ((!decide (a0.Reply.Err = (0 : Int))) && (!decide (a0.Reply.N = (0 : Int))))) then (
              some ((3 : Int))) else (
              some ((0 : Int)))))))

/-- mkref1.WrongAnswer -/
def mkref1_WrongAnswer (a0 : Mk.Answer) : Option Int :=
    (mkref1_who (a0.Client) (a0.Token)).bind (fun v1 =>
      (bif ((((((!v1) || (decide (a0.Reply.Err < (0 : Int)))) || (decide ((12 : Int) < a0.Reply.Err))) || (decide ((1073741824 : Int) < a0.Reply.N))) || (decide (a0.Reply.N < (-1073741824 : Int)))) || ((decide ((0 : Int) < a0.Reply.Err)) && (!decide (a0.Reply.N = (0 : Int))))) then (
          some ((3 : Int))) else (
          some ((0 : Int)))))

/-- wire.num -/
def wire_num (a0 : List UInt8) (a1 : Int) : Option ((List UInt8)) :=
    G (((a0.length + ([(u8 (shrI a1 24)), (u8 (shrI a1 16)), (u8 (shrI a1 8)), (u8 a1)] : List UInt8).length) * 1 ≤ 140737488355328 ∧ a0.length + ([(u8 (shrI a1 24)), (u8 (shrI a1 16)), (u8 (shrI a1 8)), (u8 a1)] : List UInt8).length ≤ 9223372036854775807)) (
      some ((a0 ++ ([(u8 (shrI a1 24)), (u8 (shrI a1 16)), (u8 (shrI a1 8)), (u8 a1)] : List UInt8))))

/-- wire.Request -/
def wire_Request (a0 : Mk.Request) : Option ((List UInt8)) :=
    (wire_num (([(UInt8.ofNat 113), (u8 a0.Client), (u8 a0.Token), (u8 a0.Call.Kind), (u8 a0.Call.Name), (u8 a0.Call.Other)] : List UInt8)) (a0.Call.N)).bind (fun v1 =>
      some (v1))

/-- mkref1.four -/
def mkref1_four (a0 : Int) : Option ByteArray :=
    some ((bts ([(u8 (u32 (Int.tdiv (u32 a0).n (⟨16777216⟩ : U32).n)).n), (u8 (⟨Int.tmod (u32 (Int.tdiv (u32 a0).n (⟨65536⟩ : U32).n)).n (⟨256⟩ : U32).n⟩ : U32).n), (u8 (⟨Int.tmod (u32 (Int.tdiv (u32 a0).n (⟨256⟩ : U32).n)).n (⟨256⟩ : U32).n⟩ : U32).n), (u8 (⟨Int.tmod (u32 a0).n (⟨256⟩ : U32).n⟩ : U32).n)] : List UInt8)))

/-- mkref1.RequestBytes -/
def mkref1_RequestBytes (a0 : Mk.Request) : Option ((List UInt8)) :=
    G (((⟨#[113]⟩ : ByteArray).size + (bts ([(u8 a0.Client), (u8 a0.Token), (u8 a0.Call.Kind), (u8 a0.Call.Name), (u8 a0.Call.Other)] : List UInt8)).size ≤ 9223372036854775807)) (
      (mkref1_four (a0.Call.N)).bind (fun v2 =>
        G ((((⟨#[113]⟩ : ByteArray) ++ (bts ([(u8 a0.Client), (u8 a0.Token), (u8 a0.Call.Kind), (u8 a0.Call.Name), (u8 a0.Call.Other)] : List UInt8))).size + v2.size ≤ 9223372036854775807)) (
          some ((stb (((⟨#[113]⟩ : ByteArray) ++ (bts ([(u8 a0.Client), (u8 a0.Token), (u8 a0.Call.Kind), (u8 a0.Call.Name), (u8 a0.Call.Other)] : List UInt8))) ++ v2))))))

/-- wire.Answer -/
def wire_Answer (a0 : Mk.Answer) : Option ((List UInt8)) :=
    (wire_num (([(UInt8.ofNat 97), (u8 a0.Client), (u8 a0.Token), (u8 a0.Reply.Err)] : List UInt8)) (a0.Reply.N)).bind (fun v1 =>
      some (v1))

/-- mkref1.AnswerBytes -/
def mkref1_AnswerBytes (a0 : Mk.Answer) : Option ((List UInt8)) :=
    G (((⟨#[97]⟩ : ByteArray).size + (bts ([(u8 a0.Client), (u8 a0.Token), (u8 a0.Reply.Err)] : List UInt8)).size ≤ 9223372036854775807)) (
      (mkref1_four (a0.Reply.N)).bind (fun v2 =>
        G ((((⟨#[97]⟩ : ByteArray) ++ (bts ([(u8 a0.Client), (u8 a0.Token), (u8 a0.Reply.Err)] : List UInt8))).size + v2.size ≤ 9223372036854775807)) (
          some ((stb (((⟨#[97]⟩ : ByteArray) ++ (bts ([(u8 a0.Client), (u8 a0.Token), (u8 a0.Reply.Err)] : List UInt8))) ++ v2))))))

/-- wire.get -/
def wire_get (a0 : List UInt8) : Option Int :=
    G ((0 ≤ (0 : Int) ∧ (0 : Int) < (a0.length : Int))) (
      G ((0 ≤ (1 : Int) ∧ (1 : Int) < (a0.length : Int))) (
        G ((0 ≤ (2 : Int) ∧ (2 : Int) < (a0.length : Int))) (
          G ((0 ≤ (3 : Int) ∧ (3 : Int) < (a0.length : Int))) (
            some ((i32 (orU (orU (orU (shlU (⟨(((ix a0 (0 : Int)).toNat : Nat) : Int)⟩ : U32) 24) (shlU (⟨(((ix a0 (1 : Int)).toNat : Nat) : Int)⟩ : U32) 16)) (shlU (⟨(((ix a0 (2 : Int)).toNat : Nat) : Int)⟩ : U32) 8)) (⟨(((ix a0 (3 : Int)).toNat : Nat) : Int)⟩ : U32)).n).n)))))

/-- wire.ReadRequest -/
def wire_ReadRequest (a0 : List UInt8) : Option (Mk.Request × Int) :=
    G (((!decide ((a0.length : Int) = (10 : Int)))) = false → (0 ≤ (0 : Int) ∧ (0 : Int) < (a0.length : Int))) (
      (bif ((!decide ((a0.length : Int) = (10 : Int))) || (!decide ((ix a0 (0 : Int)) = (UInt8.ofNat 113)))) then (
          some (({ Client := (0 : Int), Token := (0 : Int), Call := ({ Kind := (0 : Int), Name := (0 : Int), Other := (0 : Int), N := (0 : Int) } : Mk.Call) } : Mk.Request), (2 : Int))) else (
          G ((0 ≤ (1 : Int) ∧ (1 : Int) < (a0.length : Int))) (
            G ((0 ≤ (2 : Int) ∧ (2 : Int) < (a0.length : Int))) (
              G ((0 ≤ (3 : Int) ∧ (3 : Int) < (a0.length : Int))) (
                G ((0 ≤ (4 : Int) ∧ (4 : Int) < (a0.length : Int))) (
                  G ((0 ≤ (5 : Int) ∧ (5 : Int) < (a0.length : Int))) (
                    G ((0 ≤ (6 : Int) ∧ (6 : Int) ≤ (a0.length : Int) ∧ (a0.length : Int) ≤ (a0.length : Int))) (
                      (wire_get ((sub a0 (6 : Int) (a0.length : Int)))).bind (fun v9 =>
                        (wire_WrongRequest (({ Client := (((ix a0 (1 : Int)).toNat : Nat) : Int), Token := (((ix a0 (2 : Int)).toNat : Nat) : Int), Call := ({ Kind := (((ix a0 (3 : Int)).toNat : Nat) : Int), Name := (((ix a0 (4 : Int)).toNat : Nat) : Int), Other := (((ix a0 (5 : Int)).toNat : Nat) : Int), N := v9 } : Mk.Call) } : Mk.Request))).bind (fun v10 =>
                          (bif (!decide (v10 = (0 : Int))) then (
                            some (({ Client := (0 : Int), Token := (0 : Int), Call := ({ Kind := (0 : Int), Name := (0 : Int), Other := (0 : Int), N := (0 : Int) } : Mk.Call) } : Mk.Request), v10)) else (
                            some (({ Client := (((ix a0 (1 : Int)).toNat : Nat) : Int), Token := (((ix a0 (2 : Int)).toNat : Nat) : Int), Call := ({ Kind := (((ix a0 (3 : Int)).toNat : Nat) : Int), Name := (((ix a0 (4 : Int)).toNat : Nat) : Int), Other := (((ix a0 (5 : Int)).toNat : Nat) : Int), N := v9 } : Mk.Call) } : Mk.Request), (0 : Int)))))))))))))))

def mkref1_num_l1 (k1 : U32 → Option Int) : Nat → (List UInt8) → U32 → Int → Option Int
  | 0, _, _, _ => none
  | m2 + 1, x0_m2, x3_m2, x5_m2 =>
    (bif (decide (x5_m2 < (4 : Int))) then (
        G ((0 ≤ x5_m2 ∧ x5_m2 < (x0_m2.length : Int))) (
          G (I (x5_m2 + (1 : Int))) (
            mkref1_num_l1 k1 m2 (x0_m2) ((u32 ((u32 ((⟨256⟩ : U32).n * x3_m2.n)).n + (⟨(((ix x0_m2 x5_m2).toNat : Nat) : Int)⟩ : U32).n))) ((x5_m2 + (1 : Int)))))) else (
        k1 (x3_m2)))

/-- mkref1.num -/
def mkref1_num (a0 : List UInt8) : Option Int :=
    J (fun (x3_k1 : U32) =>
      some ((i32 x3_k1.n).n)) (fun k1 =>
      mkref1_num_l1 k1 (((4 : Int) - (0 : Int)).toNat + 1) (a0) ((⟨0⟩ : U32)) ((0 : Int)))

/-- mkref1.ReadRequest -/
def mkref1_ReadRequest (a0 : List UInt8) : Option (Mk.Request × Int) :=
    G (((!decide ((a0.length : Int) = (10 : Int)))) = false → (0 ≤ (0 : Int) ∧ (0 : Int) < (a0.length : Int))) (
      (bif ((!decide ((a0.length : Int) = (10 : Int))) || (!decide ((ix a0 (0 : Int)) = (UInt8.ofNat 113)))) then (
          some (({ Client := (0 : Int), Token := (0 : Int), Call := ({ Kind := (0 : Int), Name := (0 : Int), Other := (0 : Int), N := (0 : Int) } : Mk.Call) } : Mk.Request), (2 : Int))) else (
          G ((0 ≤ (1 : Int) ∧ (1 : Int) < (a0.length : Int))) (
            G ((0 ≤ (2 : Int) ∧ (2 : Int) < (a0.length : Int))) (
              G ((0 ≤ (3 : Int) ∧ (3 : Int) < (a0.length : Int))) (
                G ((0 ≤ (4 : Int) ∧ (4 : Int) < (a0.length : Int))) (
                  G ((0 ≤ (5 : Int) ∧ (5 : Int) < (a0.length : Int))) (
                    G ((0 ≤ (6 : Int) ∧ (6 : Int) ≤ (a0.length : Int) ∧ (a0.length : Int) ≤ (a0.length : Int))) (
                      (mkref1_num ((sub a0 (6 : Int) (a0.length : Int)))).bind (fun v9 =>
                        (mkref1_WrongRequest (({ Client := (((ix a0 (1 : Int)).toNat : Nat) : Int), Token := (((ix a0 (2 : Int)).toNat : Nat) : Int), Call := ({ Kind := (((ix a0 (3 : Int)).toNat : Nat) : Int), Name := (((ix a0 (4 : Int)).toNat : Nat) : Int), Other := (((ix a0 (5 : Int)).toNat : Nat) : Int), N := v9 } : Mk.Call) } : Mk.Request))).bind (fun v10 =>
                          (bif (!decide (v10 = (0 : Int))) then (
                            some (({ Client := (0 : Int), Token := (0 : Int), Call := ({ Kind := (0 : Int), Name := (0 : Int), Other := (0 : Int), N := (0 : Int) } : Mk.Call) } : Mk.Request), v10)) else (
                            some (({ Client := (((ix a0 (1 : Int)).toNat : Nat) : Int), Token := (((ix a0 (2 : Int)).toNat : Nat) : Int), Call := ({ Kind := (((ix a0 (3 : Int)).toNat : Nat) : Int), Name := (((ix a0 (4 : Int)).toNat : Nat) : Int), Other := (((ix a0 (5 : Int)).toNat : Nat) : Int), N := v9 } : Mk.Call) } : Mk.Request), (0 : Int)))))))))))))))

/-- wire.ReadAnswer -/
def wire_ReadAnswer (a0 : List UInt8) : Option (Mk.Answer × Int) :=
    G (((!decide ((a0.length : Int) = (8 : Int)))) = false → (0 ≤ (0 : Int) ∧ (0 : Int) < (a0.length : Int))) (
      (bif ((!decide ((a0.length : Int) = (8 : Int))) || (!decide ((ix a0 (0 : Int)) = (UInt8.ofNat 97)))) then (
          some (({ Client := (0 : Int), Token := (0 : Int), Reply := ({ Err := (0 : Int), N := (0 : Int) } : Mk.Reply) } : Mk.Answer), (2 : Int))) else (
          G ((0 ≤ (1 : Int) ∧ (1 : Int) < (a0.length : Int))) (
            G ((0 ≤ (2 : Int) ∧ (2 : Int) < (a0.length : Int))) (
              G ((0 ≤ (3 : Int) ∧ (3 : Int) < (a0.length : Int))) (
                G ((0 ≤ (4 : Int) ∧ (4 : Int) ≤ (a0.length : Int) ∧ (a0.length : Int) ≤ (a0.length : Int))) (
                  (wire_get ((sub a0 (4 : Int) (a0.length : Int)))).bind (fun v7 =>
                    (wire_WrongAnswer (({ Client := (((ix a0 (1 : Int)).toNat : Nat) : Int), Token := (((ix a0 (2 : Int)).toNat : Nat) : Int), Reply := ({ Err := (((ix a0 (3 : Int)).toNat : Nat) : Int), N := v7 } : Mk.Reply) } : Mk.Answer))).bind (fun v8 =>
                      (bif (!decide (v8 = (0 : Int))) then (
                          some (({ Client := (0 : Int), Token := (0 : Int), Reply := ({ Err := (0 : Int), N := (0 : Int) } : Mk.Reply) } : Mk.Answer), v8)) else (
                          some (({ Client := (((ix a0 (1 : Int)).toNat : Nat) : Int), Token := (((ix a0 (2 : Int)).toNat : Nat) : Int), Reply := ({ Err := (((ix a0 (3 : Int)).toNat : Nat) : Int), N := v7 } : Mk.Reply) } : Mk.Answer), (0 : Int)))))))))))))

/-- mkref1.ReadAnswer -/
def mkref1_ReadAnswer (a0 : List UInt8) : Option (Mk.Answer × Int) :=
    G (((!decide ((a0.length : Int) = (8 : Int)))) = false → (0 ≤ (0 : Int) ∧ (0 : Int) < (a0.length : Int))) (
      (bif ((!decide ((a0.length : Int) = (8 : Int))) || (!decide ((ix a0 (0 : Int)) = (UInt8.ofNat 97)))) then (
          some (({ Client := (0 : Int), Token := (0 : Int), Reply := ({ Err := (0 : Int), N := (0 : Int) } : Mk.Reply) } : Mk.Answer), (2 : Int))) else (
          G ((0 ≤ (1 : Int) ∧ (1 : Int) < (a0.length : Int))) (
            G ((0 ≤ (2 : Int) ∧ (2 : Int) < (a0.length : Int))) (
              G ((0 ≤ (3 : Int) ∧ (3 : Int) < (a0.length : Int))) (
                G ((0 ≤ (4 : Int) ∧ (4 : Int) ≤ (a0.length : Int) ∧ (a0.length : Int) ≤ (a0.length : Int))) (
                  (mkref1_num ((sub a0 (4 : Int) (a0.length : Int)))).bind (fun v7 =>
                    (mkref1_WrongAnswer (({ Client := (((ix a0 (1 : Int)).toNat : Nat) : Int), Token := (((ix a0 (2 : Int)).toNat : Nat) : Int), Reply := ({ Err := (((ix a0 (3 : Int)).toNat : Nat) : Int), N := v7 } : Mk.Reply) } : Mk.Answer))).bind (fun v8 =>
                      (bif (!decide (v8 = (0 : Int))) then (
                          some (({ Client := (0 : Int), Token := (0 : Int), Reply := ({ Err := (0 : Int), N := (0 : Int) } : Mk.Reply) } : Mk.Answer), v8)) else (
                          some (({ Client := (((ix a0 (1 : Int)).toNat : Nat) : Int), Token := (((ix a0 (2 : Int)).toNat : Nat) : Int), Reply := ({ Err := (((ix a0 (3 : Int)).toNat : Nat) : Int), N := v7 } : Mk.Reply) } : Mk.Answer), (0 : Int)))))))))))))
end Sp
