/- VarintLays, without Go and memory: texts and lists as bytes, or that they are too big.
   No condition beyond the row's own. -/
import Derived.Test.YtgenlgajggmbbaaHPlain
import Derived.Test.YtgenlgajggmbbaaQf5
namespace Go.Proofs.Ytgenlgajggmbbaa.Pure
open Go.RowKit Go.Proofs.Ytgenlgajggmbbaa.Q Go.Proofs.YtgenlgajggmbbaaW.PrintWords Go.Proofs.YtgenlgajggmbbaaW.PrintLast

theorem VarintLays : surmiselaw01_VarintLays.Pure := by
  intro s n l hs hn hl
  obtain ⟨k, hk⟩ : ∃ k, k = 400 := ⟨_, rfl⟩
  refine ⟨k, ?_⟩
  unfold surmiselaw01_VarintLays.f
  rw [bind_of (text_some s hs), bind_of (reftext_some s hs k (by omega)), bind_of (numbers_some n hn.2.2), bind_of (refnumbers_some n hn.2.2 k (by omega)), bind_of (texts_some l hl.2.2), bind_of (reftexts_some l hl.2.2 k (by omega)),
    bind_of (awake_true k (by omega)), if_pos rfl, if_pos rfl, if_pos rfl, if_pos rfl, if_pos rfl, if_pos rfl, beq_self_eq_true]

end Go.Proofs.Ytgenlgajggmbbaa.Pure
