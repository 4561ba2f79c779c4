/- VarintShort, without Go and memory: of two numbers from 0 on the less one has not more bytes, and none has more than ten.
   No condition beyond the row's own. -/
import Derived.Test.YtgenlgajggmbbaaHPlain
import Derived.Test.YtgenlgajggmbbaaQf4
namespace Go.Proofs.Ytgenlgajggmbbaa.Pure
open Go.RowKit Go.Proofs.Ytgenlgajggmbbaa.Q Go.Proofs.YtgenlgajggmbbaaW.PrintWords Go.Proofs.YtgenlgajggmbbaaW.PrintLast

theorem VarintShort : surmiselaw01_VarintShort.Pure := by
  intro a b ha hb
  have h1 := i64_of ha
  have h2 := i64_of hb
  have l1 := numB_len a
  have l2 := numB_len b
  have p1 : 1 ≤ (digL 10 (zig a)).length := digL_pos 9 (zig a)
  have q1 := digL_length 10 (zig a)
  refine ⟨40, ?_⟩
  unfold surmiselaw01_VarintShort.f
  rw [bind_of (number_some a h1.1 h1.2), bind_of (number_some b h2.1 h2.2), bind_of (awake_true 40 (by omega)), if_pos rfl, if_pos (by omega), if_pos (by omega)]
  by_cases h : a < 0
  · rw [if_pos h]
  · rw [if_neg h]
    by_cases h3 : b < a
    · rw [if_pos h3]
    · have hz : zig a ≤ zig b := by
        unfold zig
        rw [if_neg h, if_neg (by omega)]
        omega
      have := digL_mono 10 _ _ hz
      rw [if_neg h3, decide_eq_true (by omega)]

end Go.Proofs.Ytgenlgajggmbbaa.Pure
