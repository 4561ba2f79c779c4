/- A list is the same as itself. -/
import Derived.Test.YtgenlgajggmbbaaHBytes
import Derived.Test.YtgenlgajggmbbaaQf24
import Derived.Test.YtgenlgajggmbbaaQf27
namespace Go.Proofs.Ytgenlgajggmbbaa.Q
open Go.RowKit Go.Proofs.YtgenlgajggmbbaaW.PrintWords Go.Proofs.YtgenlgajggmbbaaW.PrintLast Go.Proofs.YtgenlgajggmbbaaW.PrintMore
set_option linter.unusedVariables false
set_option linter.unusedSimpArgs false

theorem ints_l0 (l : List Int) (d : Nat) : ∀ (k i : Nat), i + d = l.length → l.length ≤ 1000000 → d < k → surmiseref01_Ints.l0 k l l (i : Int) = some true := by
  induction d with
  | zero =>
    intro k i hi hl hk
    obtain ⟨k, rfl⟩ : ∃ k', k = k' + 1 := ⟨k - 1, by omega⟩
    rw [surmiseref01_Ints.l0, if_neg (by omega)]
  | succ d ih =>
    intro k i hi hl hk
    obtain ⟨k, rfl⟩ : ∃ k', k = k' + 1 := ⟨k - 1, by omega⟩
    rw [surmiseref01_Ints.l0, if_pos (by omega), if_pos (by omega), if_pos (by omega), if_pos rfl, wrap_up (by omega) (by omega)]
    exact ih k (i + 1) (by omega) hl (by omega)
theorem ints_same (l : List Int) (hl : l.length ≤ 256) (k : Nat) (hk : 300 ≤ k) : surmiseref01_Ints.f k l l = some true := by
  unfold surmiseref01_Ints.f
  rw [if_pos rfl]
  exact ints_l0 l l.length k 0 (by omega) (by omega) (by omega)
theorem texts_l0 (l : List ByteArray) (d : Nat) : ∀ (k i : Nat), i + d = l.length → l.length ≤ 1000000 → d < k → surmiseref01_Same.l0 k l l (i : Int) = some true := by
  induction d with
  | zero =>
    intro k i hi hl hk
    obtain ⟨k, rfl⟩ : ∃ k', k = k' + 1 := ⟨k - 1, by omega⟩
    rw [surmiseref01_Same.l0, if_neg (by omega)]
  | succ d ih =>
    intro k i hi hl hk
    obtain ⟨k, rfl⟩ : ∃ k', k = k' + 1 := ⟨k - 1, by omega⟩
    rw [surmiseref01_Same.l0, if_pos (by omega), if_pos (by omega), if_pos (by omega), if_pos rfl, wrap_up (by omega) (by omega)]
    exact ih k (i + 1) (by omega) hl (by omega)
theorem texts_same (l : List ByteArray) (hl : l.length ≤ 256) (k : Nat) (hk : 300 ≤ k) : surmiseref01_Same.f k l l = some true := by
  unfold surmiseref01_Same.f
  rw [if_pos rfl]
  exact texts_l0 l l.length k 0 (by omega) (by omega) (by omega)

end Go.Proofs.Ytgenlgajggmbbaa.Q
