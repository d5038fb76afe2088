/- THE STATEMENTS OF CHAPTER 5, of what the functions answer: plain Lean, no program in sight. -/
import Derived.Test.YtkmokkhcoombnaaPW1
import Derived.Test.YtkmokkhcoombnaaSpWireL
namespace Sp
set_option linter.unusedVariables false
set_option linter.unusedSimpArgs false
set_option maxHeartbeats 1000000
theorem law5_alive : mklaw5_alive = some true := by decide +kernel
theorem wireTells (q : Mk.Request) (a : Mk.Answer) (b : List UInt8) : mklaw5_WireTells q a b = some true := by
  unfold mklaw5_WireTells
  simp only [wreq_eq, rwreq_eq, wans_eq, rwans_eq, request_eq, requestBytes_eq, answer_eq, answerBytes_eq, readRequest_eq, rreadRequest_eq, readAnswer_eq, rreadAnswer_eq, Option.bind_some]
  simp [Cn]
  by_cases h1 : wreq q = 0 <;> by_cases h2 : wans a = 0 <;> simp [h1, h2]
theorem wireUnlike (p q : Mk.Request) (a b : Mk.Answer) : mklaw5_WireUnlike p q a b = some true := by
  unfold mklaw5_WireUnlike
  rw [law5_alive]
  simp only [wreq_eq, wans_eq, request_eq, answer_eq, Option.bind_some]
  have e1 : wreq p = 0 → wreq q = 0 → decide (reqB p = reqB q) = decide (p = q) := fun h1 h2 => by rw [decide_eq_decide]; exact reqB_inj h1 h2
  have e2 : wans a = 0 → wans b = 0 → decide (ansB a = ansB b) = decide (a = b) := fun h1 h2 => by rw [decide_eq_decide]; exact ansB_inj h1 h2
  by_cases h1 : wreq p = 0
  · by_cases h2 : wreq q = 0
    · by_cases h3 : wans a = 0
      · by_cases h4 : wans b = 0
        · simp [Cn, h1, h2, h3, h4, bts_inj, e1 h1 h2, e2 h3 h4]
        · simp [Cn, h1, h2, h3, h4, bts_inj, e1 h1 h2]
      · simp [Cn, h1, h2, h3, bts_inj, e1 h1 h2]
    · by_cases h3 : wans a = 0
      · by_cases h4 : wans b = 0
        · simp [Cn, h1, h2, h3, h4, bts_inj, e2 h3 h4]
        · simp [Cn, h1, h2, h3, h4, bts_inj]
      · simp [Cn, h1, h2, h3, bts_inj]
  · by_cases h3 : wans a = 0
    · by_cases h4 : wans b = 0
      · simp [Cn, h1, h3, h4, bts_inj, e2 h3 h4]
      · simp [Cn, h1, h3, h4, bts_inj]
    · simp [Cn, h1, h3, bts_inj]
theorem not_both {b : List UInt8} (h1 : (readReq b).2 = 0) (h2 : (readAns b).2 = 0) : False := by
  have h3 := (reqB_readReq h1).2
  have h4 := (ansB_readAns h2).2
  omega
theorem wireTurns (q : Mk.Request) (a : Mk.Answer) (b : List UInt8) : mklaw5_WireTurns q a b = some true := by
  unfold mklaw5_WireTurns
  rw [law5_alive]
  simp only [J, wreq_eq, wans_eq, request_eq, answer_eq, readRequest_eq, readAnswer_eq, Option.bind_some]
  have e1 : wreq q = 0 → readReq (reqB q) = (q, 0) := readReq_reqB
  have e2 : wans a = 0 → readAns (ansB a) = (a, 0) := readAns_ansB
  by_cases h5 : (readReq b).2 = 0
  · have h6 : (readAns b).2 ≠ 0 := fun h2 => not_both h5 h2
    have h7 := (reqB_readReq h5).1
    by_cases h1 : wreq q = 0
    · by_cases h2 : wans a = 0
      · simp [Cn, h1, h2, h5, h6, h7, e1 h1, e2 h2]
      · simp [Cn, h1, h2, h5, h6, h7, e1 h1]
    · by_cases h2 : wans a = 0
      · simp [Cn, h1, h2, h5, h6, h7, e2 h2]
      · simp [Cn, h1, h2, h5, h6, h7]
  · by_cases h6 : (readAns b).2 = 0
    · have h7 := (ansB_readAns h6).1
      by_cases h1 : wreq q = 0
      · by_cases h2 : wans a = 0
        · simp [Cn, h1, h2, h5, h6, h7, e1 h1, e2 h2]
        · simp [Cn, h1, h2, h5, h6, h7, e1 h1]
      · by_cases h2 : wans a = 0
        · simp [Cn, h1, h2, h5, h6, h7, e2 h2]
        · simp [Cn, h1, h2, h5, h6, h7]
    · by_cases h1 : wreq q = 0
      · by_cases h2 : wans a = 0
        · simp [Cn, h1, h2, h5, h6, e1 h1, e2 h2]
        · simp [Cn, h1, h2, h5, h6, e1 h1]
      · by_cases h2 : wans a = 0
        · simp [Cn, h1, h2, h5, h6, e2 h2]
        · simp [Cn, h1, h2, h5, h6]
end Sp
