/- CheckSums, without Go and memory: the sum of all bytes, the sealed text, and what any bytes are opened as.
   No condition beyond the row's own. -/
import Derived.Test.YtnlimhjbdgbcoaaHLaws
import Derived.Test.YtnlimhjbdgbcoaaQf7
namespace Go.Proofs.Ytnlimhjbdgbcoaa.Pure
open Go.RowKit Go.Proofs.Ytnlimhjbdgbcoaa.Q Go.Proofs.YtnlimhjbdgbcoaaW.PrintWords Go.Proofs.YtnlimhjbdgbcoaaW.PrintLast Go.Proofs.Ytnlimhjbdgbcoaa.Crc

attribute [local irreducible] sumN joinN sK thN

theorem CheckSums : surmiselaw02_CheckSums.Pure := by
  intro a0 _
  obtain ⟨a, ea, ha⟩ := few_spec a0
  obtain ⟨k, hk⟩ : ∃ k, k = 40000 := ⟨_, rfl⟩
  refine ⟨k, ?_⟩
  unfold surmiselaw02_CheckSums.f
  rw [ea]
  simp only [Option.bind_some]
  rw [open_crc a (by omega) k (by omega)]
  simp only [Option.bind_some]
  rw [refopen_crc a (by omega) k (by omega)]
  simp only [Option.bind_some]
  rw [awake_true k (by omega)]
  simp only [Option.bind_some, if_true]
  rw [sum_crc a (by omega) k (by omega)]
  simp only [Option.bind_some]
  rw [refsum_crc a (by omega) k (by omega)]
  simp only [Option.bind_some, if_true]
  rw [seal_crc a (by omega) k (by omega)]
  simp only [Option.bind_some]
  rw [refseal_crc a (by omega) k (by omega)]
  simp

end Go.Proofs.Ytnlimhjbdgbcoaa.Pure
