/- CheckThree, without Go and memory: the sums of three texts come to the same, joined from either side.
   No condition beyond the row's own. -/
import Derived.Test.YtnlimhjbdgbcoaaHLaws
import Derived.Test.YtnlimhjbdgbcoaaQf5
namespace Go.Proofs.Ytnlimhjbdgbcoaa.Pure
open Go.RowKit Go.Proofs.Ytnlimhjbdgbcoaa.Q Go.Proofs.YtnlimhjbdgbcoaaW.PrintWords Go.Proofs.YtnlimhjbdgbcoaaW.PrintLast Go.Proofs.Ytnlimhjbdgbcoaa.Crc

theorem join_lt (x y n : Nat) (hx : x < 4294967296) (hy : y < 4294967296) : joinN x y n < 4294967296 := Nat.xor_lt_two_pow (n := 32) (sK_lt _ _ hx) hy
theorem CheckThree : surmiselaw02_CheckThree.Pure := by
  intro a0 b0 c0 _ _ _
  obtain ⟨a, ea, ha⟩ := few_spec a0
  obtain ⟨b, eb, hb⟩ := few_spec b0
  obtain ⟨c, ec, hc⟩ := few_spec c0
  obtain ⟨k, hk⟩ : ∃ k, k = 4000 := ⟨_, rfl⟩
  refine ⟨k, ?_⟩
  have e : wrap64 ((b.size : Int) + (c.size : Int)) = ((b.size + c.size : Nat) : Int) := by rw [wrap_id (by omega) (by omega)]; omega
  have sa := sum_crc a (by omega) k (by omega)
  have sb := sum_crc b (by omega) k (by omega)
  have sc := sum_crc c (by omega) k (by omega)
  have aw := awake_true k (by omega)
  have nb : b.size ≤ 9223372036854775807 := by omega
  have nc : c.size ≤ 9223372036854775807 := by omega
  have nbc : b.size + c.size ≤ 9223372036854775807 := by omega
  have la := sumN_lt _ (bl_lt a)
  have lb := sumN_lt _ (bl_lt b)
  have lc := sumN_lt _ (bl_lt c)
  generalize sumN (bl a) = x at sa la
  generalize sumN (bl b) = y at sb lb
  generalize sumN (bl c) = z at sc lc
  have j1 := join_crc x y b.size la lb nb
  have j2 := join_crc _ z c.size (join_lt x y b.size la lb) lc nc
  have j3 := join_crc y z c.size lb lc nc
  have j4 := join_crc x _ (b.size + c.size) la (join_lt y z c.size lb lc) nbc
  have j5 := join_three x y z b.size c.size
  unfold surmiselaw02_CheckThree.f
  rw [bind_of ea, bind_of eb, bind_of ec, bind_of sa, bind_of sb, bind_of j1, bind_of sc, bind_of j2, bind_of sb, bind_of sc, bind_of j3, bind_of sa, e, bind_of j4, bind_of aw]
  dsimp only
  rw [if_pos rfl, if_pos rfl, if_pos rfl, if_pos rfl, if_pos rfl, j5, beq_self_eq_true]

end Go.Proofs.Ytnlimhjbdgbcoaa.Pure
