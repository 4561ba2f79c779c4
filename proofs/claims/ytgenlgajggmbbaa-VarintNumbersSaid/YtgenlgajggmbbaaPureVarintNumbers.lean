/- VarintNumbers, without Go and memory: every number's bytes are the document's.
   No condition beyond the row's own. -/
import Derived.Test.YtgenlgajggmbbaaHPlain
import Derived.Test.YtgenlgajggmbbaaQf3
namespace Go.Proofs.Ytgenlgajggmbbaa.Pure
open Go.RowKit Go.Proofs.Ytgenlgajggmbbaa.Q Go.Proofs.YtgenlgajggmbbaaW.PrintWords Go.Proofs.YtgenlgajggmbbaaW.PrintLast

theorem VarintNumbers : surmiselaw01_VarintNumbers.Pure := by
  intro n hn
  have hb := i64_of hn
  refine ⟨40, ?_⟩
  unfold surmiselaw01_VarintNumbers.f
  rw [bind_of (awake_true 40 (by omega)), if_pos rfl, bind_of (number_some n hb.1 hb.2), bind_of (refnumber_some n hb.1 hb.2 40 (by omega)), beq_self_eq_true]

end Go.Proofs.Ytgenlgajggmbbaa.Pure
