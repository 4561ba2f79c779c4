/- VarintReads, without Go and memory: both readers read the same. No condition beyond the row's own. -/
import Derived.Test.YtgenlgajggmbbaaHReads
namespace Go.Proofs.Ytgenlgajggmbbaa.Pure
open Go.RowKit Go.Proofs.Ytgenlgajggmbbaa.Q Go.Proofs.YtgenlgajggmbbaaW.PrintWords Go.Proofs.YtgenlgajggmbbaaW.PrintLast

theorem VarintReads : surmiselaw01_VarintReads.Pure := by
  intro s a hs ha
  obtain ⟨k, hk⟩ : ∃ k, k = 500 := ⟨_, rfl⟩
  refine ⟨k + 3, ?_⟩
  unfold surmiselaw01_VarintReads.f
  rw [bind_of (read_some s hs a (k + 3) (by omega)), bind_of (refread_some s hs a (k + 3) (by omega)), if_pos rfl, if_pos rfl, if_pos rfl, bind_of (awake_true (k + 3) (by omega)), surmiselaw01_VarintReads.j0, if_neg (by decide),
    bind_of (readtext_some s hs a (k + 2) (by omega)), bind_of (refreadtext_some s hs a (k + 2) (by omega)), if_pos rfl, if_pos rfl, bne_self_eq_false, surmiselaw01_VarintReads.j1, if_neg (by decide),
    bind_of (readnums_some s hs a (k + 1) (by omega)), bind_of (refrnums_some s hs a (k + 1) (by omega)), bind_of (ints_same _ (listN_len _ s hs a) (k + 1) (by omega)), if_pos rfl, if_pos rfl, bne_self_eq_false, surmiselaw01_VarintReads.j2, if_neg (by decide),
    bind_of (readtexts_some s hs a k (by omega)), bind_of (refrtexts_some s hs a k (by omega)), bind_of (texts_same _ (listN_len _ s hs a) k (by omega)), if_pos rfl, if_pos rfl, beq_self_eq_true]

end Go.Proofs.Ytgenlgajggmbbaa.Pure
