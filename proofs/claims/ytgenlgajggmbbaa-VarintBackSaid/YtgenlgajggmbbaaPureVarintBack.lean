/- VarintBack, without Go and memory: what was laid is read again. No condition beyond the row's own. -/
import Derived.Test.YtgenlgajggmbbaaHBack
import Derived.Test.YtgenlgajggmbbaaHSame
import Derived.Test.YtgenlgajggmbbaaQf7
namespace Go.Proofs.Ytgenlgajggmbbaa.Pure
open Go.RowKit Go.Proofs.Ytgenlgajggmbbaa.Q Go.Proofs.YtgenlgajggmbbaaW.PrintWords Go.Proofs.YtgenlgajggmbbaaW.PrintLast
set_option linter.unusedVariables false
set_option linter.unusedSimpArgs false

theorem moved (p m : Nat) (hp : p ≤ 5000) (hm : m ≤ 10000000) : wrap64 (((p + m : Nat) : Int) - (p : Int)) = (m : Int) := by
  rw [wrap_id (by omega) (by omega)]
  omega
section
variable (A B : ByteArray) (n : Int) (t : ByteArray) (ns : List Int) (ts : List ByteArray) (hA : A.size ≤ 5000) (hB : B.size ≤ 5000) (hn : (Lit.int .i64 n).wf = true) (ht : t.size ≤ 140737488351232) (hns : ∀ x ∈ ns, (Lit.int .i64 x).wf = true) (hts : ∀ x ∈ ts, x.size ≤ 140737488351232)
include hA hB
theorem mid_size (x : ByteArray) (hx : x.size ≤ 10000000) : A.size + x.size ≤ 9223372036854775807 ∧ (A ++ x).size + B.size ≤ 9223372036854775807 ∧ ((A ++ x) ++ B).size ≤ 140737488351232 := by
  have h1 := size_app A x
  have h2 := size_app (A ++ x) B
  omega
include hts in
theorem back_j3 (k : Nat) (hk : 400 ≤ k) : surmiselaw01_VarintBack.j3 (k + 1) (A.size : Int) A B n t ns ts = some true := by
  rw [surmiselaw01_VarintBack.j3, bind_of (texts_some ts hts)]
  by_cases h : (textsP ts).2 = 0
  · have hx := textsP_size ts h
    obtain ⟨z1, z2, z3⟩ := mid_size A B hA hB _ hx
    have hr := texts_back ((A ++ (textsP ts).1) ++ B) ts A.size h (At.mid A _ B)
    have hl : ts.length ≤ 256 := by
      have := listN_len (readT ((A ++ (textsP ts).1) ++ B)) _ z3 (A.size : Int)
      rw [hr] at this
      exact this
    rw [if_pos h, if_pos z1, if_pos z2, bind_of (readtexts_some _ z3 _ k hk), hr, if_pos rfl, bind_of (texts_same ts hl k (by omega)), if_pos rfl, moved _ _ hA hx, if_pos rfl]
  · rw [if_neg h]
include hns hts in
theorem back_j2 (k : Nat) (hk : 400 ≤ k) : surmiselaw01_VarintBack.j2 (k + 2) (A.size : Int) A B n t ns ts = some true := by
  rw [surmiselaw01_VarintBack.j2, bind_of (numbers_some ns hns)]
  by_cases h : (numbersP ns).2 = 0
  · have hx := numbersP_size ns h
    obtain ⟨z1, z2, z3⟩ := mid_size A B hA hB _ hx
    have hr := numbers_back ((A ++ (numbersP ns).1) ++ B) ns hns A.size h (At.mid A _ B)
    have hl : ns.length ≤ 256 := by
      have := listN_len (readN ((A ++ (numbersP ns).1) ++ B)) _ z3 (A.size : Int)
      rw [hr] at this
      exact this
    rw [if_pos h, if_pos z1, if_pos z2, bind_of (readnums_some _ z3 _ (k + 1) (by omega)), hr, if_pos rfl, bind_of (ints_same ns hl (k + 1) (by omega)), if_pos rfl, moved _ _ hA hx, if_pos rfl, back_j3 A B n t ns ts hA hB hts k hk]
  · rw [if_neg h, back_j3 A B n t ns ts hA hB hts k hk]
include ht hns hts in
theorem back_j1 (k : Nat) (hk : 400 ≤ k) : surmiselaw01_VarintBack.j1 (k + 3) (A.size : Int) false A B n t ns ts = some true := by
  rw [surmiselaw01_VarintBack.j1, if_neg (by decide), bind_of (text_some t ht)]
  by_cases h : (textP t).2 = 0
  · have hx := textP_size t
    obtain ⟨z1, z2, z3⟩ := mid_size A B hA hB (textP t).1 (by omega)
    have hr := text_back ((A ++ (textP t).1) ++ B) t A.size h (At.mid A _ B)
    rw [if_pos h, if_pos z1, if_pos z2, bind_of (readtext_some _ z3 _ (k + 2) (by omega)), hr, if_pos rfl, if_pos rfl, moved _ _ hA (by omega), if_pos rfl, back_j2 A B n t ns ts hA hB hns hts k hk]
  · rw [if_neg h, back_j2 A B n t ns ts hA hB hns hts k hk]
include hn ht hns hts in
theorem back_j0 (k : Nat) (hk : 400 ≤ k) : surmiselaw01_VarintBack.j0 (k + 4) false A B n t ns ts = some true := by
  have hb := i64_of hn
  have hx := numB_size n
  obtain ⟨z1, z2, z3⟩ := mid_size A B hA hB (numB n) (by omega)
  have hr := readN_num ((A ++ numB n) ++ B) n hb.1 hb.2 A.size (At.mid A _ B)
  rw [surmiselaw01_VarintBack.j0, if_neg (by decide), bind_of (number_some n hb.1 hb.2), if_pos z1, if_pos z2, bind_of (read_some _ z3 _ (k + 3) (by omega)), hr, if_pos rfl, if_pos rfl, moved _ _ hA (by omega), bne_self_eq_false, back_j1 A B n t ns ts hA hB ht hns hts k hk]
end
theorem VarintBack : surmiselaw01_VarintBack.Pure := by
  intro A B n t ns ts _ _ hn ht hns hts
  obtain ⟨k, hk⟩ : ∃ k, k = 500 := ⟨_, rfl⟩
  refine ⟨k + 4, ?_⟩
  unfold surmiselaw01_VarintBack.f
  have hbad : surmiselaw01_VarintBack.j0 (k + 4) true A B n t ns ts = some true := by
    rw [surmiselaw01_VarintBack.j0, if_pos rfl, bind_of (awake_true (k + 3) (by omega))]
  by_cases h0 : (A.size : Int) > 5000
  · rw [if_pos h0, hbad]
  · rw [if_neg h0]
    by_cases h1 : (B.size : Int) > 5000
    · rw [if_pos h1, hbad]
    · rw [if_neg h1, bind_of (awake_true (k + 4) (by omega))]
      exact back_j0 A B n t ns ts (by omega) (by omega) hn ht hns.2.2 hts.2.2 k (by omega)

end Go.Proofs.Ytgenlgajggmbbaa.Pure
