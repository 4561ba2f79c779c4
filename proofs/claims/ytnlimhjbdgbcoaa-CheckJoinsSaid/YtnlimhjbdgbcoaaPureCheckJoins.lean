/- CheckJoins, without Go and memory: the sums of two texts are joined to the sum of both, and any two sums as the document says.
   No condition beyond the row's own. -/
import Derived.Test.YtnlimhjbdgbcoaaHLaws
import Derived.Test.YtnlimhjbdgbcoaaQf4
namespace Go.Proofs.Ytnlimhjbdgbcoaa.Pure
open Go.RowKit Go.Proofs.Ytnlimhjbdgbcoaa.Q Go.Proofs.YtnlimhjbdgbcoaaW.PrintWords Go.Proofs.YtnlimhjbdgbcoaaW.PrintLast Go.Proofs.Ytnlimhjbdgbcoaa.Crc

attribute [local irreducible] sumN joinN sK thN

theorem joins_j0 (a : ByteArray) (ha : a.size ≤ 3000) (n : Int) (hn : n ≤ 9223372036854775807) (k : Nat) (hk : 40000 < k) : surmiselaw02_CheckJoins.j0 k a n false = some true := by
  obtain ⟨k, rfl⟩ : ∃ m, k = m + 1 := ⟨k - 1, by omega⟩
  have la := sumN_lt _ (bl_lt a)
  have e1 : (12345 : Int) = ((12345 : Nat) : Int) := rfl
  simp only [surmiselaw02_CheckJoins.j0]
  rw [if_neg (by simp), refsum_crc a (by omega) k (by omega)]
  simp only [Option.bind_some]
  by_cases h : n < 0
  · have e : check_Join.f ((sumN (bl a) : Nat) : Int) 12345 n = some (0, 2) := by
      unfold check_Join.f
      rw [if_pos h]
    rw [e]
    simp only [Option.bind_some]
    rw [if_pos h, if_pos trivial]
    rfl
  · obtain ⟨m, rfl⟩ := Int.eq_ofNat_of_zero_le (by omega : 0 ≤ n)
    rw [e1, join_crc _ 12345 m la (by omega) (by omega)]
    simp only [Option.bind_some]
    rw [if_neg h]
    by_cases h2 : (m : Int) > 3000
    · rw [if_pos h2]
      rfl
    · rw [if_neg h2, if_pos trivial, refjoin_crc _ _ m la (by omega) (by omega) k (by omega)]
      simp
theorem CheckJoins : surmiselaw02_CheckJoins.Pure := by
  intro a0 b0 n _ _ hn
  have hn' : n ≤ 9223372036854775807 := by
    simp only [Lit.wf, Bool.and_eq_true, decide_eq_true_eq] at hn
    exact hn.2
  obtain ⟨a, ea, ha⟩ := few_spec a0
  obtain ⟨b, eb, hb⟩ := few_spec b0
  obtain ⟨k, hk⟩ : ∃ k, k = 100000 := ⟨_, rfl⟩
  refine ⟨k, ?_⟩
  have la := sumN_lt _ (bl_lt a)
  have lb := sumN_lt _ (bl_lt b)
  have hab : (a ++ b).size = a.size + b.size := ByteArray.size_append
  have hj := join_sums (bl a) (bl b) (bl_lt b)
  rw [bl_length, ← bl_append] at hj
  unfold surmiselaw02_CheckJoins.f
  rw [bind_of ea, bind_of eb, bind_of (sum_crc a (by omega) k (by omega)), bind_of (sum_crc b (by omega) k (by omega)), bind_of (join_crc _ _ _ la lb (by omega)), bind_of (awake_true k (by omega))]
  dsimp only
  rw [if_pos rfl, if_pos rfl, if_pos (by omega), bind_of (refsum_crc (a ++ b) (by omega) k (by omega)), hj, bne_self_eq_false]
  exact joins_j0 a ha n hn' k (by omega)

end Go.Proofs.Ytnlimhjbdgbcoaa.Pure
