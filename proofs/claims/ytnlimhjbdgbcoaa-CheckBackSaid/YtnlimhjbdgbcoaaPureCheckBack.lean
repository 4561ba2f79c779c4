/- CheckBack, without Go and memory: what is sealed is opened as it was.
   No condition beyond the row's own. -/
import Derived.Test.YtnlimhjbdgbcoaaHLaws
import Derived.Test.YtnlimhjbdgbcoaaQf8
namespace Go.Proofs.Ytnlimhjbdgbcoaa.Pure
open Go.RowKit Go.Proofs.Ytnlimhjbdgbcoaa.Q Go.Proofs.YtnlimhjbdgbcoaaW.PrintWords Go.Proofs.YtnlimhjbdgbcoaaW.PrintLast Go.Proofs.Ytnlimhjbdgbcoaa.Crc

attribute [local irreducible] sumN joinN sK thN

theorem CheckBack : surmiselaw02_CheckBack.Pure := by
  intro a0 _
  obtain ⟨a, ea, ha⟩ := few_spec a0
  obtain ⟨k, hk⟩ : ∃ k, k = 4000 := ⟨_, rfl⟩
  refine ⟨k, ?_⟩
  have hz : (a ++ fourB (sumN (bl a))).size = a.size + 4 := by rw [ByteArray.size_append, fourB_size]
  have hx : (a ++ fourB (sumN (bl a))).extract 0 ((a ++ fourB (sumN (bl a))).size - 4) = a := by
    rw [hz]
    exact ByteArray.extract_append_eq_left (by omega)
  have hy : (a ++ fourB (sumN (bl a))).extract ((a ++ fourB (sumN (bl a))).size - 4) (a ++ fourB (sumN (bl a))).size = fourB (sumN (bl a)) := by
    rw [hz]
    exact ByteArray.extract_append_eq_right (by omega) (by rw [fourB_size])
  have ho : openN (a ++ fourB (sumN (bl a))) = (a, 0) := by
    unfold openN
    rw [if_neg (by omega), hx, hy, if_pos rfl]
  have e : wrap64 ((a.size : Int) + 4) = (a.size : Int) + 4 := wrap_id (by omega) (by omega)
  unfold surmiselaw02_CheckBack.f
  rw [ea]
  simp only [Option.bind_some]
  rw [seal_crc a (by omega) k (by omega)]
  simp only [Option.bind_some]
  rw [open_crc _ (by omega) k (by omega), ho]
  simp only [Option.bind_some]
  rw [awake_true k (by omega)]
  simp only [Option.bind_some, if_true]
  rw [e, hz]
  simp

end Go.Proofs.Ytnlimhjbdgbcoaa.Pure
