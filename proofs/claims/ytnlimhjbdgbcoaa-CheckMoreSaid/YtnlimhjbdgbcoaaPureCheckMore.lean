/- CheckMore, without Go and memory: in whatever pieces bytes come, it is the sum of all of them.
   No condition beyond the row's own. -/
import Derived.Test.YtnlimhjbdgbcoaaHLaws
import Derived.Test.YtnlimhjbdgbcoaaQf3
namespace Go.Proofs.Ytnlimhjbdgbcoaa.Pure
open Go.RowKit Go.Proofs.Ytnlimhjbdgbcoaa.Q Go.Proofs.YtnlimhjbdgbcoaaW.PrintWords Go.Proofs.YtnlimhjbdgbcoaaW.PrintLast Go.Proofs.Ytnlimhjbdgbcoaa.Crc

/-- All is well: the sum so far is that of all so far. -/
theorem more_j2 (sum : Nat) (hs : sum < 4294967296) (all : ByteArray) (ha : all.size ≤ 6000) (k : Nat) (hk : 100000 < k) : surmiselaw02_CheckMore.j2 k (sum : Int) all ((sumN (bl all) : Nat) : Int) = some true := by
  obtain ⟨k, rfl⟩ : ∃ m, k = m + 1 := ⟨k - 1, by omega⟩
  have aw := awake_true k (by omega)
  have s1 := refsum_crc all (by omega) k (by omega)
  have m1 := more_crc all (by omega) k (by omega) sum hs
  have t1 := refth_crc all (by omega) k (by omega) (sum ^^^ F) (Nat.xor_lt_two_pow (n := 32) hs F_lt)
  have m2 := more_crc (⟨#[]⟩ : ByteArray) (by decide) k (by show 0 + 9 < k; omega) sum hs
  have e1 := xorF' sum hs
  have e2 := xorF' _ (thN_lt (bl all) (sum ^^^ F) (Nat.xor_lt_two_pow (n := 32) hs F_lt) (bl_lt all))
  have e3 : moreN sum (bl (⟨#[]⟩ : ByteArray)) = sum := by
    have : bl (⟨#[]⟩ : ByteArray) = [] := rfl
    rw [this, moreN, thN_nil, Nat.xor_comm F, Nat.xor_assoc, Nat.xor_self, Nat.xor_zero]
  have e4 : thN (sum ^^^ F) (bl all) ^^^ F = moreN sum (bl all) := by rw [moreN, Nat.xor_comm F]
  rw [e3] at m2
  rw [e4] at e2
  simp only [surmiselaw02_CheckMore.j2]
  generalize sumN (bl all) = x at *
  generalize thN (sum ^^^ F) (bl all) = y at *
  generalize moreN sum (bl all) = z at *
  rw [bind_of aw, if_pos rfl, bind_of s1, if_pos rfl, bind_of m1, e1, bind_of t1, e2, if_pos rfl, bind_of m2, beq_self_eq_true]

theorem more_lists (sum : Nat) (hs : sum < 4294967296) (l : List ByteArray) (d : Nat) : ∀ (k i : Nat) (all : ByteArray), i + d = 20 → i ≤ l.length → all.size ≤ 6000 → 100000 + 2 * d + 2 < k →
    surmiselaw02_CheckMore.l0 k l (sum : Int) all ((sumN (bl all) : Nat) : Int) (i : Int) = some true := by
  induction d with
  | zero =>
    intro k i all hi hil ha hk
    obtain ⟨k, rfl⟩ : ∃ m, k = m + 1 + 1 := ⟨k - 2, by omega⟩
    have hj := more_j2 sum hs all ha k (by omega)
    generalize sumN (bl all) = x at *
    simp only [surmiselaw02_CheckMore.l0, surmiselaw02_CheckMore.j1]
    have e : decide ((i : Int) < 20) = false := decide_eq_false (by omega)
    rw [e]
    split <;> (rw [if_neg (by simp)]; exact hj)
  | succ d ih =>
    intro k i all hi hil ha hk
    obtain ⟨k, rfl⟩ : ∃ m, k = m + 1 + 1 := ⟨k - 2, by omega⟩
    have hj := more_j2 sum hs all ha k (by omega)
    by_cases hlt : i < l.length
    · have hm : rdOf ByteArray.empty l (i : Int) ∈ l := by
        unfold rdOf
        rw [Int.toNat_natCast, List.getD_eq_getElem?_getD, List.getElem?_eq_getElem hlt]
        exact List.getElem_mem hlt
      obtain ⟨s, hs0⟩ : ∃ s, s = rdOf ByteArray.empty l (i : Int) := ⟨_, rfl⟩
      obtain ⟨t, et, ht⟩ := few_spec s
      have hm1 := more_crc t (by omega) k (by omega) (sumN (bl all)) (sumN_lt _ (bl_lt all))
      have e3 : moreN (sumN (bl all)) (bl t) = sumN (bl (all ++ t)) := by
        have : F ^^^ sumN (bl all) = thN F (bl all) := by rw [sumN, Nat.xor_comm (thN F (bl all)), ← Nat.xor_assoc, Nat.xor_self, Nat.zero_xor]
        rw [moreN, this, bl_append, sumN, thN_append]
      rw [e3] at hm1
      have hsz : (all ++ t).size = all.size + t.size := ByteArray.size_append
      have e : decide ((i : Int) < 20) = true := decide_eq_true (by omega)
      have hih := fun h => ih k (i + 1) (all ++ t) (by omega) (by omega) h (by omega)
      have w1 : wrap64 ((i : Int) + 1) = ((i + 1 : Nat) : Int) := by rw [wrap_up (by omega) (by omega)]; rfl
      generalize sumN (bl all) = x at *
      generalize sumN (bl (all ++ t)) = y at *
      simp only [surmiselaw02_CheckMore.l0, surmiselaw02_CheckMore.j1]
      rw [e, if_pos (by omega), if_pos rfl, if_pos (by omega), if_pos (by omega)]
      rw [← hs0, bind_of et]
      by_cases hbig : (all.size : Int) > 3000
      · rw [if_pos hbig]
        exact hj
      · rw [if_neg hbig, if_pos (by omega), bind_of hm1, w1]
        exact hih (by omega)
    · generalize sumN (bl all) = x at *
      simp only [surmiselaw02_CheckMore.l0, surmiselaw02_CheckMore.j1]
      rw [if_neg (by omega), if_neg (by simp)]
      exact hj

theorem CheckMore : surmiselaw02_CheckMore.Pure := by
  intro l sum _ hw
  have hw' : 0 ≤ sum ∧ sum < 4294967296 := by
    have h0 : IntKind.u32.min = 0 := rfl
    have h1 : IntKind.u32.max = 4294967295 := rfl
    simp only [Lit.wf, Bool.and_eq_true, decide_eq_true_eq] at hw
    omega
  obtain ⟨s, rfl⟩ := Int.eq_ofNat_of_zero_le hw'.1
  obtain ⟨k, hk⟩ : ∃ k, k = 200000 := ⟨_, rfl⟩
  refine ⟨k, ?_⟩
  have h := more_lists s (by omega) l 20 k 0 (⟨#[]⟩ : ByteArray) (by omega) (by omega) (by decide) (by omega)
  have e : sumN (bl (⟨#[]⟩ : ByteArray)) = 0 := by decide
  rw [e] at h
  exact h

end Go.Proofs.Ytnlimhjbdgbcoaa.Pure
