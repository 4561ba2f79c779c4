/- Texts of this session laid together (merge.py): YtlcgmlfiggkppaaHSame, YtlcgmlfiggkppaaPurePatternCovers. -/
import Derived.Test.YtlcgmlfiggkppaaTPatternCoversf
/- The reference's answers on texts are the program's; what must come at any rate comes. -/
namespace Go.Proofs.Ytlcgmlfiggkppaa.Q
open Go.RowKit Go.Proofs.YtlcgmlfiggkppaaW.PrintWords Go.Proofs.YtlcgmlfiggkppaaW.PrintLast Go.Proofs.YtlcgmlfiggkppaaW.PrintMore
set_option linter.unusedVariables false
set_option linter.unusedSimpArgs false

theorem pat_pat (s : ByteArray) (h : patternB s = true) : patL (partsP s) = true := by
  unfold patternB at h
  rw [Bool.and_eq_true, Bool.and_eq_true] at h
  exact h.2.1
theorem parts_few (s : ByteArray) (h : s.size ≤ 32) : (partsP s).length ≤ 33 := by
  have := parts_len s
  omega
theorem refmatch_some (p s : ByteArray) (k : Nat) (hk : 400 ≤ k) : surmiseref08_Match.f k p s = some (matchB p s) := by
  unfold surmiseref08_Match.f matchB
  rw [bind_of (refpattern_some p k (by omega))]
  cases hp : patternB p with
  | false => rfl
  | true =>
    rw [if_pos rfl, bind_of (refstream_some s k (by omega))]
    cases hs : streamB s with
    | false => rfl
    | true =>
      have h1 := pat_size p hp
      have h2 := str_size s hs
      have h3 := parts_few p h1
      rw [if_pos rfl, bind_of (refparts_some p (by omega) k (by omega)), bind_of (refparts_some s (by omega) k (by omega)), refmatch_l (partsP p) (partsP s) k (pat_pat p hp) (by omega)]
      rfl
theorem refcovers_some (p q : ByteArray) (k : Nat) (hk : 400 ≤ k) : surmiseref08_Covers.f k p q = some (coversB p q) := by
  unfold surmiseref08_Covers.f coversB
  rw [bind_of (refpattern_some p k (by omega))]
  cases hp : patternB p with
  | false => rfl
  | true =>
    rw [if_pos rfl, bind_of (refpattern_some q k (by omega))]
    cases hq : patternB q with
    | false => rfl
    | true =>
      have h1 := pat_size p hp
      have h2 := pat_size q hq
      have h3 := parts_few p h1
      rw [if_pos rfl, bind_of (refparts_some p (by omega) k (by omega)), bind_of (refparts_some q (by omega) k (by omega)), refcovers_l (partsP p) (partsP q) k (pat_pat p hp) (pat_pat q hq) (by omega)]
      rfl
theorem refmeets_some (p q : ByteArray) (k : Nat) (hk : 400 ≤ k) : surmiseref08_Meets.f k p q = some (meetsB p q) := by
  unfold surmiseref08_Meets.f meetsB
  rw [bind_of (refpattern_some p k (by omega))]
  cases hp : patternB p with
  | false => rfl
  | true =>
    rw [if_pos rfl, bind_of (refpattern_some q k (by omega))]
    cases hq : patternB q with
    | false => rfl
    | true =>
      have h1 := pat_size p hp
      have h2 := pat_size q hq
      have h3 := parts_few p h1
      rw [if_pos rfl, bind_of (refparts_some p (by omega) k (by omega)), bind_of (refparts_some q (by omega) k (by omega)), refmeets_l (partsP p) (partsP q) k (pat_pat p hp) (pat_pat q hq) (by omega)]
      rfl
theorem awake_some (k : Nat) (hk : 400 ≤ k) : surmiselaw08_awake.f k = some true := by
  unfold surmiselaw08_awake.f
  have e1 : matchB (⟨#[97, 47, 42]⟩ : ByteArray) (⟨#[97, 47, 98]⟩ : ByteArray) = true := by decide +kernel
  have e2 : matchB (⟨#[97, 47, 42]⟩ : ByteArray) (⟨#[97, 47, 98, 47, 99]⟩ : ByteArray) = false := by decide +kernel
  have e3 : matchB (⟨#[97, 47, 42, 42]⟩ : ByteArray) (⟨#[97]⟩ : ByteArray) = true := by decide +kernel
  have e4 : coversB (⟨#[97, 47, 42, 42]⟩ : ByteArray) (⟨#[97, 47, 42, 47, 99]⟩ : ByteArray) = true := by decide +kernel
  have e5 : coversB (⟨#[97, 47, 42]⟩ : ByteArray) (⟨#[97, 47, 42, 42]⟩ : ByteArray) = false := by decide +kernel
  have e6 : meetsB (⟨#[42, 47, 98]⟩ : ByteArray) (⟨#[97, 47, 42]⟩ : ByteArray) = true := by decide +kernel
  have e7 : pattern_Compare.f (⟨#[97]⟩ : ByteArray) (⟨#[98]⟩ : ByteArray) = some (-1) := by decide +kernel
  rw [bind_of ((match_some _ _ k hk).trans (congrArg some e1)), if_pos rfl, bind_of ((match_some _ _ k hk).trans (congrArg some e2)), if_neg (by decide), bind_of ((match_some _ _ k hk).trans (congrArg some e3)), if_pos rfl, bind_of ((covers_some _ _ k hk).trans (congrArg some e4)), if_pos rfl, bind_of ((covers_some _ _ k hk).trans (congrArg some e5)), if_neg (by decide), bind_of ((meets_some _ _ k hk).trans (congrArg some e6)), if_pos rfl, bind_of e7]
  rfl

end Go.Proofs.Ytlcgmlfiggkppaa.Q

/- PatternCovers: which patterns cover one another, and which meet: the program and the reference say the same, and meeting is the same from either side. Conditions: the row's own alone. -/
namespace Go.Proofs.Ytlcgmlfiggkppaa.Pure
open Go.RowKit Go.Proofs.Ytlcgmlfiggkppaa.Q Go.Proofs.YtlcgmlfiggkppaaW.PrintWords Go.Proofs.YtlcgmlfiggkppaaW.PrintLast

theorem PatternCovers : surmiselaw08_PatternCovers.Pure := by
  intro p q _ _
  refine ⟨400, ?_⟩
  unfold surmiselaw08_PatternCovers.f
  have hb : ∀ b : Bool, (b == b) = true := fun b => by cases b <;> rfl
  have hc : meetsB q p = meetsB p q := by
    unfold meetsB
    cases hp : patternB p with
    | false => rw [Bool.false_and, Bool.false_and, Bool.and_false, Bool.false_and]
    | true =>
      cases hq : patternB q with
      | false => rfl
      | true => rw [mee_comm _ _ (pat_pat q hq) (pat_pat p hp)]
  rw [bind_of (awake_some 400 (by omega)), if_pos rfl, bind_of (covers_some p q 400 (by omega)), bind_of (refcovers_some p q 400 (by omega)), if_pos (hb _), bind_of (meets_some p q 400 (by omega)), bind_of (refmeets_some p q 400 (by omega)), if_pos (hb _), bind_of (meets_some p q 400 (by omega)), bind_of (meets_some q p 400 (by omega)), hc, hb]

end Go.Proofs.Ytlcgmlfiggkppaa.Pure
