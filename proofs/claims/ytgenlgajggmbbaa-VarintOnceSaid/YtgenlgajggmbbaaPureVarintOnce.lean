/- VarintOnce, without Go and memory: what is read is laid as the bytes that were read. No condition beyond the row's own. -/
import Derived.Test.YtgenlgajggmbbaaHBack
import Derived.Test.YtgenlgajggmbbaaQf8
namespace Go.Proofs.Ytgenlgajggmbbaa.Pure
open Go.RowKit Go.Proofs.Ytgenlgajggmbbaa.Q Go.Proofs.YtgenlgajggmbbaaW.PrintWords Go.Proofs.YtgenlgajggmbbaaW.PrintLast
set_option linter.unusedVariables false
set_option linter.unusedSimpArgs false

theorem once_j2 (s : ByteArray) (hs : s.size ≤ 140737488351232) (a : Int) (k : Nat) (hk : 400 ≤ k) : surmiselaw01_VarintOnce.j2 (k + 1) s a = some true := by
  rw [surmiselaw01_VarintOnce.j2, bind_of (readtexts_some s hs a k hk)]
  by_cases h : (listN (readT s) s a).2.2 = 0
  · obtain ⟨⟨h1, h2, h3⟩, h4⟩ := texts_once s hs a h
    rw [if_pos h, bind_of (texts_some _ (listN_all (fun t => t.size ≤ 140737488351232) (readT s) (fun b hb => by
      have h5 := (readT_once s hs b hb).2
      have h6 := (textP_ok _ (by rw [h5])).1
      omega) s a)), h4, if_pos rfl, if_pos h1, if_pos (by omega), if_pos h3, beq_self_eq_true]
  · obtain ⟨h1, h2⟩ := listN_err (readT s) s a h
    rw [if_neg h, h1, h2]
    rfl
theorem once_j1 (s : ByteArray) (hs : s.size ≤ 140737488351232) (a : Int) (k : Nat) (hk : 400 ≤ k) : surmiselaw01_VarintOnce.j1 (k + 2) s a false = some true := by
  rw [surmiselaw01_VarintOnce.j1, if_neg (by decide), bind_of (readnums_some s hs a (k + 1) (by omega))]
  by_cases h : (listN (readN s) s a).2.2 = 0
  · obtain ⟨⟨h1, h2, h3⟩, h4⟩ := numbers_once s hs a h
    rw [if_pos h, bind_of (numbers_some _ (listN_all (fun n => (Lit.int .i64 n).wf = true) (readN s) (fun b hb => by
      have h5 := readN_i64 s b hb
      exact wf_i64 _ h5.1 h5.2) s a)), h4, if_pos rfl, if_pos h1, if_pos (by omega), if_pos h3, if_pos rfl, once_j2 s hs a k hk]
  · rw [if_neg h, once_j2 s hs a k hk]
theorem VarintOnce : surmiselaw01_VarintOnce.Pure := by
  intro s a hs ha
  obtain ⟨k, hk⟩ : ∃ k, k = 500 := ⟨_, rfl⟩
  refine ⟨k + 3, ?_⟩
  unfold surmiselaw01_VarintOnce.f
  rw [bind_of (awake_true (k + 3) (by omega)), if_pos rfl]
  have hbad : surmiselaw01_VarintOnce.j0 (k + 3) s a true = some true := by
    rw [surmiselaw01_VarintOnce.j0, if_pos rfl, bind_of (awake_true (k + 2) (by omega))]
  have hok : surmiselaw01_VarintOnce.j0 (k + 3) s a false = some true := by
    rw [surmiselaw01_VarintOnce.j0, if_neg (by decide), bind_of (read_some s hs a (k + 2) (by omega))]
    by_cases h : (readN s a).2.2 = 0
    · obtain ⟨⟨h1, h2, h3⟩, h4⟩ := readN_once s a h
      have h5 := readN_i64 s a h
      rw [if_pos h, bind_of (number_some _ h5.1 h5.2), if_pos h1, if_pos (by omega), if_pos h3, h4, bne_self_eq_false, once_j1 s hs a k (by omega)]
    · rw [if_neg h, once_j1 s hs a k (by omega)]
  by_cases h0 : a < 0
  · rw [if_pos h0, hbad]
  · rw [if_neg h0]
    cases decide (a > (s.size : Int)) with
    | true => exact hbad
    | false => exact hok

end Go.Proofs.Ytgenlgajggmbbaa.Pure
