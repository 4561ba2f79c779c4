/- Texts of this session laid together (merge.py): YtlcgmlfiggkppaaQf21, YtlcgmlfiggkppaaQf8, YtlcgmlfiggkppaaQf4, YtlcgmlfiggkppaaHBase, YtlcgmlfiggkppaaHBytes, YtlcgmlfiggkppaaHParts, YtlcgmlfiggkppaaQf10, YtlcgmlfiggkppaaHNames. -/
import Derived.Lib.Strings
import Derived.Test.YtlcgmlfiggkppaaTPatternCoversd
-- By px.py, a program of this session that drives the kit's printer: laid out of the translation; Lean checks it.
namespace Go.Proofs.Ytlcgmlfiggkppaa.Q
open Go.RowKit Go.Proofs.YtlcgmlfiggkppaaW.PrintWords Go.Proofs.YtlcgmlfiggkppaaW.PrintLast Go.Proofs.YtlcgmlfiggkppaaW.PrintMore
attribute [local go_sem] max2_int min2_int max_two min_two max_three min_three max_four min_four   -- for this text's walks alone
set_option linter.unusedVariables false
set_option linter.unusedSimpArgs false

/-! ### pattern_Compare: function 21 -/
def pattern_Compare.f (a0 : ByteArray) (a1 : ByteArray) : Option (Int) := if (Op.bytesLess a0.toList a1.toList) = true then (some (-1)) else (if (Op.bytesLess a1.toList a0.toList) = true then (some 1) else (some 0))
set_option maxHeartbeats 8000000 in
set_option maxRecDepth 100000 in
theorem pattern_Compare.calls (a0 : ByteArray) (a1 : ByteArray) (r : Int) (w : World) (h : pattern_Compare.f a0 a1 = some r) :
    Calls Try.prog 21 #[.string a0, .string a1] w fun e w' => e = .returned (.int .i64 r) ∧ Drawn0 w w' := by
  have H : (if (Op.bytesLess a0.toList a1.toList) = true then (some (-1)) else (if (Op.bytesLess a1.toList a0.toList) = true then (some 1) else (some 0))) = some r := h
  clear h
  by_cases c3 : (Op.bytesLess a0.toList a1.toList) = true
  · rw [if_pos c3] at H
    have c3b0 : (Op.bytesLess a0.toList a1.toList) = true := c3
    clear c3
    obtain rfl := Option.some.inj H
    go_enter Try.func21, Try.ntmps21
    go_wp2
    go_ret
    exact ⟨by first | rfl | (simp; done) | (simp [*]; done), by repeat (first | exact Drawn0.refl _ | apply Drawn0.step)⟩
  · rw [if_neg c3] at H
    have c3b0 : (Op.bytesLess a0.toList a1.toList) = false := by simpa using c3
    clear c3
    by_cases c4 : (Op.bytesLess a1.toList a0.toList) = true
    · rw [if_pos c4] at H
      have c4b0 : (Op.bytesLess a1.toList a0.toList) = true := c4
      clear c4
      obtain rfl := Option.some.inj H
      go_enter Try.func21, Try.ntmps21
      go_wp2
      go_ret
      exact ⟨by first | rfl | (simp; done) | (simp [*]; done), by repeat (first | exact Drawn0.refl _ | apply Drawn0.step)⟩
    · rw [if_neg c4] at H
      have c4b0 : (Op.bytesLess a1.toList a0.toList) = false := by simpa using c4
      clear c4
      obtain rfl := Option.some.inj H
      go_enter Try.func21, Try.ntmps21
      go_wp2
      go_ret
      exact ⟨by first | rfl | (simp; done) | (simp [*]; done), by repeat (first | exact Drawn0.refl _ | apply Drawn0.step)⟩

end Go.Proofs.Ytlcgmlfiggkppaa.Q

-- By px.py, a program of this session that drives the kit's printer: laid out of the translation; Lean checks it.
namespace Go.Proofs.Ytlcgmlfiggkppaa.Q
open Go.RowKit Go.Proofs.YtlcgmlfiggkppaaW.PrintWords Go.Proofs.YtlcgmlfiggkppaaW.PrintLast Go.Proofs.YtlcgmlfiggkppaaW.PrintMore
attribute [local go_sem] max2_int min2_int max_two min_two max_three min_three max_four min_four   -- for this text's walks alone
set_option linter.unusedVariables false
set_option linter.unusedSimpArgs false

/-! ### surmiselaw08_awake: function 8 -/
def surmiselaw08_awake.f (k : Nat)  : Option (Bool) := (pattern_Match.f k (⟨#[97, 47, 42]⟩ : ByteArray) (⟨#[97, 47, 98]⟩ : ByteArray)).bind fun t177 => (if t177 = true then ((pattern_Match.f k (⟨#[97, 47, 42]⟩ : ByteArray) (⟨#[97, 47, 98, 47, 99]⟩ : ByteArray)).bind fun t178 => (if t178 = true then (some false) else ((pattern_Match.f k (⟨#[97, 47, 42, 42]⟩ : ByteArray) (⟨#[97]⟩ : ByteArray)).bind fun t179 => (if t179 = true then ((pattern_Covers.f k (⟨#[97, 47, 42, 42]⟩ : ByteArray) (⟨#[97, 47, 42, 47, 99]⟩ : ByteArray)).bind fun t180 => (if t180 = true then ((pattern_Covers.f k (⟨#[97, 47, 42]⟩ : ByteArray) (⟨#[97, 47, 42, 42]⟩ : ByteArray)).bind fun t181 => (if t181 = true then (some false) else ((pattern_Meets.f k (⟨#[42, 47, 98]⟩ : ByteArray) (⟨#[97, 47, 42]⟩ : ByteArray)).bind fun t182 => (if t182 = true then ((pattern_Compare.f (⟨#[97]⟩ : ByteArray) (⟨#[98]⟩ : ByteArray)).bind fun t183 => (some (decide (t183 < 0)))) else (some false))))) else (some false))) else (some false))))) else (some false))
theorem surmiselaw08_awake.mono : ∀ k, LeO (surmiselaw08_awake.f k ) (surmiselaw08_awake.f (k + 1) ) := by
  intro  k
  unfold surmiselaw08_awake.f
  repeat' first
      | (with_reducible exact pattern_Covers.mono _ _ _)
      | (with_reducible exact pattern_Match.mono _ _ _)
      | (with_reducible exact pattern_Meets.mono _ _ _)
      | (with_reducible exact LeO.refl _)
      | (with_reducible exact LeO.none _)
      | (with_reducible refine LeO.ite ?_ ?_)
      | (with_reducible refine LeO.bind ?_ (fun _ => ?_))
      | exact pattern_Covers.mono _ _ _
      | exact pattern_Match.mono _ _ _
      | exact pattern_Meets.mono _ _ _
      | exact LeO.none _
      | refine LeO.ite ?_ ?_
      | refine LeO.bind ?_ (fun _ => ?_)
set_option maxHeartbeats 8000000 in
set_option maxRecDepth 100000 in
theorem surmiselaw08_awake.calls (k : Nat)  (r : Bool) (w : World) (h : surmiselaw08_awake.f k  = some r) :
    Calls Try.prog 8 #[] w fun e w' => e = .returned (.bool r) ∧ Below w.heap.size w w' := by
  have HB := Aside0.mk (Below.refl w.heap.size w)
  have H : ((pattern_Match.f k (⟨#[97, 47, 42]⟩ : ByteArray) (⟨#[97, 47, 98]⟩ : ByteArray)).bind fun t177 => (if t177 = true then ((pattern_Match.f k (⟨#[97, 47, 42]⟩ : ByteArray) (⟨#[97, 47, 98, 47, 99]⟩ : ByteArray)).bind fun t178 => (if t178 = true then (some false) else ((pattern_Match.f k (⟨#[97, 47, 42, 42]⟩ : ByteArray) (⟨#[97]⟩ : ByteArray)).bind fun t179 => (if t179 = true then ((pattern_Covers.f k (⟨#[97, 47, 42, 42]⟩ : ByteArray) (⟨#[97, 47, 42, 47, 99]⟩ : ByteArray)).bind fun t180 => (if t180 = true then ((pattern_Covers.f k (⟨#[97, 47, 42]⟩ : ByteArray) (⟨#[97, 47, 42, 42]⟩ : ByteArray)).bind fun t181 => (if t181 = true then (some false) else ((pattern_Meets.f k (⟨#[42, 47, 98]⟩ : ByteArray) (⟨#[97, 47, 42]⟩ : ByteArray)).bind fun t182 => (if t182 = true then ((pattern_Compare.f (⟨#[97]⟩ : ByteArray) (⟨#[98]⟩ : ByteArray)).bind fun t183 => (some (decide (t183 < 0)))) else (some false))))) else (some false))) else (some false))))) else (some false))) = some r := h
  clear h
  replace H := Option.bind_eq_some_iff.mp H
  obtain ⟨t177, A10, H⟩ := H
  replace H : (if t177 = true then ((pattern_Match.f k (⟨#[97, 47, 42]⟩ : ByteArray) (⟨#[97, 47, 98, 47, 99]⟩ : ByteArray)).bind fun t178 => (if t178 = true then (some false) else ((pattern_Match.f k (⟨#[97, 47, 42, 42]⟩ : ByteArray) (⟨#[97]⟩ : ByteArray)).bind fun t179 => (if t179 = true then ((pattern_Covers.f k (⟨#[97, 47, 42, 42]⟩ : ByteArray) (⟨#[97, 47, 42, 47, 99]⟩ : ByteArray)).bind fun t180 => (if t180 = true then ((pattern_Covers.f k (⟨#[97, 47, 42]⟩ : ByteArray) (⟨#[97, 47, 42, 42]⟩ : ByteArray)).bind fun t181 => (if t181 = true then (some false) else ((pattern_Meets.f k (⟨#[42, 47, 98]⟩ : ByteArray) (⟨#[97, 47, 42]⟩ : ByteArray)).bind fun t182 => (if t182 = true then ((pattern_Compare.f (⟨#[97]⟩ : ByteArray) (⟨#[98]⟩ : ByteArray)).bind fun t183 => (some (decide (t183 < 0)))) else (some false))))) else (some false))) else (some false))))) else (some false)) = some r := H
  have A1 := Aside0.mk A10
  clear A10
  by_cases c2 : t177 = true
  · subst c2
    have H1 : ((pattern_Match.f k (⟨#[97, 47, 42]⟩ : ByteArray) (⟨#[97, 47, 98, 47, 99]⟩ : ByteArray)).bind fun t178 => (if t178 = true then (some false) else ((pattern_Match.f k (⟨#[97, 47, 42, 42]⟩ : ByteArray) (⟨#[97]⟩ : ByteArray)).bind fun t179 => (if t179 = true then ((pattern_Covers.f k (⟨#[97, 47, 42, 42]⟩ : ByteArray) (⟨#[97, 47, 42, 47, 99]⟩ : ByteArray)).bind fun t180 => (if t180 = true then ((pattern_Covers.f k (⟨#[97, 47, 42]⟩ : ByteArray) (⟨#[97, 47, 42, 42]⟩ : ByteArray)).bind fun t181 => (if t181 = true then (some false) else ((pattern_Meets.f k (⟨#[42, 47, 98]⟩ : ByteArray) (⟨#[97, 47, 42]⟩ : ByteArray)).bind fun t182 => (if t182 = true then ((pattern_Compare.f (⟨#[97]⟩ : ByteArray) (⟨#[98]⟩ : ByteArray)).bind fun t183 => (some (decide (t183 < 0)))) else (some false))))) else (some false))) else (some false))))) = some r := by rw [if_pos rfl] at H; exact H
    clear H
    have H := H1
    clear H1
    replace H := Option.bind_eq_some_iff.mp H
    obtain ⟨t178, A30, H⟩ := H
    replace H : (if t178 = true then (some false) else ((pattern_Match.f k (⟨#[97, 47, 42, 42]⟩ : ByteArray) (⟨#[97]⟩ : ByteArray)).bind fun t179 => (if t179 = true then ((pattern_Covers.f k (⟨#[97, 47, 42, 42]⟩ : ByteArray) (⟨#[97, 47, 42, 47, 99]⟩ : ByteArray)).bind fun t180 => (if t180 = true then ((pattern_Covers.f k (⟨#[97, 47, 42]⟩ : ByteArray) (⟨#[97, 47, 42, 42]⟩ : ByteArray)).bind fun t181 => (if t181 = true then (some false) else ((pattern_Meets.f k (⟨#[42, 47, 98]⟩ : ByteArray) (⟨#[97, 47, 42]⟩ : ByteArray)).bind fun t182 => (if t182 = true then ((pattern_Compare.f (⟨#[97]⟩ : ByteArray) (⟨#[98]⟩ : ByteArray)).bind fun t183 => (some (decide (t183 < 0)))) else (some false))))) else (some false))) else (some false)))) = some r := H
    have A3 := Aside0.mk A30
    clear A30
    by_cases c4 : t178 = true
    · subst c4
      have H1 : (some false) = some r := by rw [if_pos rfl] at H; exact H
      clear H
      have H := H1
      clear H1
      obtain rfl := Option.some.inj H
      go_enter Try.func8, Try.ntmps8
      go_wp2_with (first | ((with_reducible refine gate_callee (f := 13) rfl ?_); refine goesL_ (some 1) rfl rfl Try.func13 (by kernel_rfl) rfl #[.string (⟨#[97, 47, 42]⟩ : ByteArray), .string (⟨#[97, 47, 98]⟩ : ByteArray)] rfl (by (try simp only [List.map_toArray, List.map_cons, List.map_nil]); first | done | rfl | (simp only [List.length_drop, List.length_take]; rfl)) ?_; (with_reducible refine (pattern_Match.calls k (⟨#[97, 47, 42]⟩ : ByteArray) (⟨#[97, 47, 98]⟩ : ByteArray) true _ A1.out).mono ?_); rintro e w5 ⟨rfl, hb⟩; refine ⟨_, rfl, ?_⟩; have n0_ := Aside0.mk (below_step (by repeat (first | (with_reducible first | exact HB.out | apply below_alloc | apply pw_below_drewN | apply below_drew1) | exact HB.out)) hb); clear HB; have HB := n0_; clear n0_; (try clear hb); (try clear hb2); (try clear hk); (try clear hi)) | (go_at_call 13; (with_reducible refine (pattern_Match.calls k (⟨#[97, 47, 42]⟩ : ByteArray) (⟨#[97, 47, 98, 47, 99]⟩ : ByteArray) true _ A3.out).mono ?_); rintro e w6 ⟨rfl, hb⟩; have n0_ := Aside0.mk (below_step (by repeat (first | (with_reducible first | exact HB.out | apply below_alloc | apply pw_below_drewN | apply below_drew1) | exact HB.out)) hb); clear HB; have HB := n0_; clear n0_; (try clear hb); (try clear hb2); (try clear hk); (try clear hi)))
      go_ret
      exact ⟨by first | rfl | (simp [errW_none, errW_some] <;> rfl) | (simp [*, errW_none, errW_some] <;> rfl), by repeat (first | (with_reducible first | exact HB.out | apply below_alloc | apply pw_below_drewN | apply below_drew1) | exact HB.out)⟩
    · replace c4 := Bool.eq_false_iff.mpr c4
      subst c4
      have H1 : ((pattern_Match.f k (⟨#[97, 47, 42, 42]⟩ : ByteArray) (⟨#[97]⟩ : ByteArray)).bind fun t179 => (if t179 = true then ((pattern_Covers.f k (⟨#[97, 47, 42, 42]⟩ : ByteArray) (⟨#[97, 47, 42, 47, 99]⟩ : ByteArray)).bind fun t180 => (if t180 = true then ((pattern_Covers.f k (⟨#[97, 47, 42]⟩ : ByteArray) (⟨#[97, 47, 42, 42]⟩ : ByteArray)).bind fun t181 => (if t181 = true then (some false) else ((pattern_Meets.f k (⟨#[42, 47, 98]⟩ : ByteArray) (⟨#[97, 47, 42]⟩ : ByteArray)).bind fun t182 => (if t182 = true then ((pattern_Compare.f (⟨#[97]⟩ : ByteArray) (⟨#[98]⟩ : ByteArray)).bind fun t183 => (some (decide (t183 < 0)))) else (some false))))) else (some false))) else (some false))) = some r := by rw [if_neg (show ¬ (false = true) by decide)] at H; exact H
      clear H
      have H := H1
      clear H1
      replace H := Option.bind_eq_some_iff.mp H
      obtain ⟨t179, A70, H⟩ := H
      replace H : (if t179 = true then ((pattern_Covers.f k (⟨#[97, 47, 42, 42]⟩ : ByteArray) (⟨#[97, 47, 42, 47, 99]⟩ : ByteArray)).bind fun t180 => (if t180 = true then ((pattern_Covers.f k (⟨#[97, 47, 42]⟩ : ByteArray) (⟨#[97, 47, 42, 42]⟩ : ByteArray)).bind fun t181 => (if t181 = true then (some false) else ((pattern_Meets.f k (⟨#[42, 47, 98]⟩ : ByteArray) (⟨#[97, 47, 42]⟩ : ByteArray)).bind fun t182 => (if t182 = true then ((pattern_Compare.f (⟨#[97]⟩ : ByteArray) (⟨#[98]⟩ : ByteArray)).bind fun t183 => (some (decide (t183 < 0)))) else (some false))))) else (some false))) else (some false)) = some r := H
      have A7 := Aside0.mk A70
      clear A70
      by_cases c8 : t179 = true
      · subst c8
        have H1 : ((pattern_Covers.f k (⟨#[97, 47, 42, 42]⟩ : ByteArray) (⟨#[97, 47, 42, 47, 99]⟩ : ByteArray)).bind fun t180 => (if t180 = true then ((pattern_Covers.f k (⟨#[97, 47, 42]⟩ : ByteArray) (⟨#[97, 47, 42, 42]⟩ : ByteArray)).bind fun t181 => (if t181 = true then (some false) else ((pattern_Meets.f k (⟨#[42, 47, 98]⟩ : ByteArray) (⟨#[97, 47, 42]⟩ : ByteArray)).bind fun t182 => (if t182 = true then ((pattern_Compare.f (⟨#[97]⟩ : ByteArray) (⟨#[98]⟩ : ByteArray)).bind fun t183 => (some (decide (t183 < 0)))) else (some false))))) else (some false))) = some r := by rw [if_pos rfl] at H; exact H
        clear H
        have H := H1
        clear H1
        replace H := Option.bind_eq_some_iff.mp H
        obtain ⟨t180, A90, H⟩ := H
        replace H : (if t180 = true then ((pattern_Covers.f k (⟨#[97, 47, 42]⟩ : ByteArray) (⟨#[97, 47, 42, 42]⟩ : ByteArray)).bind fun t181 => (if t181 = true then (some false) else ((pattern_Meets.f k (⟨#[42, 47, 98]⟩ : ByteArray) (⟨#[97, 47, 42]⟩ : ByteArray)).bind fun t182 => (if t182 = true then ((pattern_Compare.f (⟨#[97]⟩ : ByteArray) (⟨#[98]⟩ : ByteArray)).bind fun t183 => (some (decide (t183 < 0)))) else (some false))))) else (some false)) = some r := H
        have A9 := Aside0.mk A90
        clear A90
        by_cases c10 : t180 = true
        · subst c10
          have H1 : ((pattern_Covers.f k (⟨#[97, 47, 42]⟩ : ByteArray) (⟨#[97, 47, 42, 42]⟩ : ByteArray)).bind fun t181 => (if t181 = true then (some false) else ((pattern_Meets.f k (⟨#[42, 47, 98]⟩ : ByteArray) (⟨#[97, 47, 42]⟩ : ByteArray)).bind fun t182 => (if t182 = true then ((pattern_Compare.f (⟨#[97]⟩ : ByteArray) (⟨#[98]⟩ : ByteArray)).bind fun t183 => (some (decide (t183 < 0)))) else (some false))))) = some r := by rw [if_pos rfl] at H; exact H
          clear H
          have H := H1
          clear H1
          replace H := Option.bind_eq_some_iff.mp H
          obtain ⟨t181, A110, H⟩ := H
          replace H : (if t181 = true then (some false) else ((pattern_Meets.f k (⟨#[42, 47, 98]⟩ : ByteArray) (⟨#[97, 47, 42]⟩ : ByteArray)).bind fun t182 => (if t182 = true then ((pattern_Compare.f (⟨#[97]⟩ : ByteArray) (⟨#[98]⟩ : ByteArray)).bind fun t183 => (some (decide (t183 < 0)))) else (some false)))) = some r := H
          have A11 := Aside0.mk A110
          clear A110
          by_cases c12 : t181 = true
          · subst c12
            have H1 : (some false) = some r := by rw [if_pos rfl] at H; exact H
            clear H
            have H := H1
            clear H1
            obtain rfl := Option.some.inj H
            go_enter Try.func8, Try.ntmps8
            go_wp2_with (first | ((with_reducible refine gate_callee (f := 13) rfl ?_); refine goesL_ (some 1) rfl rfl Try.func13 (by kernel_rfl) rfl #[.string (⟨#[97, 47, 42]⟩ : ByteArray), .string (⟨#[97, 47, 98]⟩ : ByteArray)] rfl (by (try simp only [List.map_toArray, List.map_cons, List.map_nil]); first | done | rfl | (simp only [List.length_drop, List.length_take]; rfl)) ?_; (with_reducible refine (pattern_Match.calls k (⟨#[97, 47, 42]⟩ : ByteArray) (⟨#[97, 47, 98]⟩ : ByteArray) true _ A1.out).mono ?_); rintro e w13 ⟨rfl, hb⟩; refine ⟨_, rfl, ?_⟩; have n0_ := Aside0.mk (below_step (by repeat (first | (with_reducible first | exact HB.out | apply below_alloc | apply pw_below_drewN | apply below_drew1) | exact HB.out)) hb); clear HB; have HB := n0_; clear n0_; (try clear hb); (try clear hb2); (try clear hk); (try clear hi)) | (go_at_call 13; (with_reducible refine (pattern_Match.calls k (⟨#[97, 47, 42]⟩ : ByteArray) (⟨#[97, 47, 98, 47, 99]⟩ : ByteArray) false _ A3.out).mono ?_); rintro e w14 ⟨rfl, hb⟩; have n0_ := Aside0.mk (below_step (by repeat (first | (with_reducible first | exact HB.out | apply below_alloc | apply pw_below_drewN | apply below_drew1) | exact HB.out)) hb); clear HB; have HB := n0_; clear n0_; (try clear hb); (try clear hb2); (try clear hk); (try clear hi)) | (go_at_call 13; (with_reducible refine (pattern_Match.calls k (⟨#[97, 47, 42, 42]⟩ : ByteArray) (⟨#[97]⟩ : ByteArray) true _ A7.out).mono ?_); rintro e w15 ⟨rfl, hb⟩; have n0_ := Aside0.mk (below_step (by repeat (first | (with_reducible first | exact HB.out | apply below_alloc | apply pw_below_drewN | apply below_drew1) | exact HB.out)) hb); clear HB; have HB := n0_; clear n0_; (try clear hb); (try clear hb2); (try clear hk); (try clear hi)) | (go_at_call 15; (with_reducible refine (pattern_Covers.calls k (⟨#[97, 47, 42, 42]⟩ : ByteArray) (⟨#[97, 47, 42, 47, 99]⟩ : ByteArray) true _ A9.out).mono ?_); rintro e w16 ⟨rfl, hb⟩; have n0_ := Aside0.mk (below_step (by repeat (first | (with_reducible first | exact HB.out | apply below_alloc | apply pw_below_drewN | apply below_drew1) | exact HB.out)) hb); clear HB; have HB := n0_; clear n0_; (try clear hb); (try clear hb2); (try clear hk); (try clear hi)) | (go_at_call 15; (with_reducible refine (pattern_Covers.calls k (⟨#[97, 47, 42]⟩ : ByteArray) (⟨#[97, 47, 42, 42]⟩ : ByteArray) true _ A11.out).mono ?_); rintro e w17 ⟨rfl, hb⟩; have n0_ := Aside0.mk (below_step (by repeat (first | (with_reducible first | exact HB.out | apply below_alloc | apply pw_below_drewN | apply below_drew1) | exact HB.out)) hb); clear HB; have HB := n0_; clear n0_; (try clear hb); (try clear hb2); (try clear hk); (try clear hi)))
            go_ret
            exact ⟨by first | rfl | (simp [errW_none, errW_some] <;> rfl) | (simp [*, errW_none, errW_some] <;> rfl), by repeat (first | (with_reducible first | exact HB.out | apply below_alloc | apply pw_below_drewN | apply below_drew1) | exact HB.out)⟩
          · replace c12 := Bool.eq_false_iff.mpr c12
            subst c12
            have H1 : ((pattern_Meets.f k (⟨#[42, 47, 98]⟩ : ByteArray) (⟨#[97, 47, 42]⟩ : ByteArray)).bind fun t182 => (if t182 = true then ((pattern_Compare.f (⟨#[97]⟩ : ByteArray) (⟨#[98]⟩ : ByteArray)).bind fun t183 => (some (decide (t183 < 0)))) else (some false))) = some r := by rw [if_neg (show ¬ (false = true) by decide)] at H; exact H
            clear H
            have H := H1
            clear H1
            replace H := Option.bind_eq_some_iff.mp H
            obtain ⟨t182, A180, H⟩ := H
            replace H : (if t182 = true then ((pattern_Compare.f (⟨#[97]⟩ : ByteArray) (⟨#[98]⟩ : ByteArray)).bind fun t183 => (some (decide (t183 < 0)))) else (some false)) = some r := H
            have A18 := Aside0.mk A180
            clear A180
            by_cases c19 : t182 = true
            · subst c19
              have H1 : ((pattern_Compare.f (⟨#[97]⟩ : ByteArray) (⟨#[98]⟩ : ByteArray)).bind fun t183 => (some (decide (t183 < 0)))) = some r := by rw [if_pos rfl] at H; exact H
              clear H
              have H := H1
              clear H1
              replace H := Option.bind_eq_some_iff.mp H
              obtain ⟨t183, A200, H⟩ := H
              replace H : (some (decide (t183 < 0))) = some r := H
              have A20 := Aside0.mk A200
              clear A200
              obtain rfl := Option.some.inj H
              go_enter Try.func8, Try.ntmps8
              go_wp2_with (first | ((with_reducible refine gate_callee (f := 13) rfl ?_); refine goesL_ (some 1) rfl rfl Try.func13 (by kernel_rfl) rfl #[.string (⟨#[97, 47, 42]⟩ : ByteArray), .string (⟨#[97, 47, 98]⟩ : ByteArray)] rfl (by (try simp only [List.map_toArray, List.map_cons, List.map_nil]); first | done | rfl | (simp only [List.length_drop, List.length_take]; rfl)) ?_; (with_reducible refine (pattern_Match.calls k (⟨#[97, 47, 42]⟩ : ByteArray) (⟨#[97, 47, 98]⟩ : ByteArray) true _ A1.out).mono ?_); rintro e w21 ⟨rfl, hb⟩; refine ⟨_, rfl, ?_⟩; have n0_ := Aside0.mk (below_step (by repeat (first | (with_reducible first | exact HB.out | apply below_alloc | apply pw_below_drewN | apply below_drew1) | exact HB.out)) hb); clear HB; have HB := n0_; clear n0_; (try clear hb); (try clear hb2); (try clear hk); (try clear hi)) | (go_at_call 13; (with_reducible refine (pattern_Match.calls k (⟨#[97, 47, 42]⟩ : ByteArray) (⟨#[97, 47, 98, 47, 99]⟩ : ByteArray) false _ A3.out).mono ?_); rintro e w22 ⟨rfl, hb⟩; have n0_ := Aside0.mk (below_step (by repeat (first | (with_reducible first | exact HB.out | apply below_alloc | apply pw_below_drewN | apply below_drew1) | exact HB.out)) hb); clear HB; have HB := n0_; clear n0_; (try clear hb); (try clear hb2); (try clear hk); (try clear hi)) | (go_at_call 13; (with_reducible refine (pattern_Match.calls k (⟨#[97, 47, 42, 42]⟩ : ByteArray) (⟨#[97]⟩ : ByteArray) true _ A7.out).mono ?_); rintro e w23 ⟨rfl, hb⟩; have n0_ := Aside0.mk (below_step (by repeat (first | (with_reducible first | exact HB.out | apply below_alloc | apply pw_below_drewN | apply below_drew1) | exact HB.out)) hb); clear HB; have HB := n0_; clear n0_; (try clear hb); (try clear hb2); (try clear hk); (try clear hi)) | (go_at_call 15; (with_reducible refine (pattern_Covers.calls k (⟨#[97, 47, 42, 42]⟩ : ByteArray) (⟨#[97, 47, 42, 47, 99]⟩ : ByteArray) true _ A9.out).mono ?_); rintro e w24 ⟨rfl, hb⟩; have n0_ := Aside0.mk (below_step (by repeat (first | (with_reducible first | exact HB.out | apply below_alloc | apply pw_below_drewN | apply below_drew1) | exact HB.out)) hb); clear HB; have HB := n0_; clear n0_; (try clear hb); (try clear hb2); (try clear hk); (try clear hi)) | (go_at_call 15; (with_reducible refine (pattern_Covers.calls k (⟨#[97, 47, 42]⟩ : ByteArray) (⟨#[97, 47, 42, 42]⟩ : ByteArray) false _ A11.out).mono ?_); rintro e w25 ⟨rfl, hb⟩; have n0_ := Aside0.mk (below_step (by repeat (first | (with_reducible first | exact HB.out | apply below_alloc | apply pw_below_drewN | apply below_drew1) | exact HB.out)) hb); clear HB; have HB := n0_; clear n0_; (try clear hb); (try clear hb2); (try clear hk); (try clear hi)) | (go_at_call 17; (with_reducible refine (pattern_Meets.calls k (⟨#[42, 47, 98]⟩ : ByteArray) (⟨#[97, 47, 42]⟩ : ByteArray) true _ A18.out).mono ?_); rintro e w26 ⟨rfl, hb⟩; have n0_ := Aside0.mk (below_step (by repeat (first | (with_reducible first | exact HB.out | apply below_alloc | apply pw_below_drewN | apply below_drew1) | exact HB.out)) hb); clear HB; have HB := n0_; clear n0_; (try clear hb); (try clear hb2); (try clear hk); (try clear hi)) | (go_at_call 21; (with_reducible refine (pattern_Compare.calls (⟨#[97]⟩ : ByteArray) (⟨#[98]⟩ : ByteArray) t183 _ A20.out).mono ?_); rintro e w' ⟨rfl, ⟨nd, rfl⟩⟩))
              go_ret
              exact ⟨by first | rfl | (simp [errW_none, errW_some] <;> rfl) | (simp [*, errW_none, errW_some] <;> rfl), by repeat (first | (with_reducible first | exact HB.out | apply below_alloc | apply pw_below_drewN | apply below_drew1) | exact HB.out)⟩
            · replace c19 := Bool.eq_false_iff.mpr c19
              subst c19
              have H1 : (some false) = some r := by rw [if_neg (show ¬ (false = true) by decide)] at H; exact H
              clear H
              have H := H1
              clear H1
              obtain rfl := Option.some.inj H
              go_enter Try.func8, Try.ntmps8
              go_wp2_with (first | ((with_reducible refine gate_callee (f := 13) rfl ?_); refine goesL_ (some 1) rfl rfl Try.func13 (by kernel_rfl) rfl #[.string (⟨#[97, 47, 42]⟩ : ByteArray), .string (⟨#[97, 47, 98]⟩ : ByteArray)] rfl (by (try simp only [List.map_toArray, List.map_cons, List.map_nil]); first | done | rfl | (simp only [List.length_drop, List.length_take]; rfl)) ?_; (with_reducible refine (pattern_Match.calls k (⟨#[97, 47, 42]⟩ : ByteArray) (⟨#[97, 47, 98]⟩ : ByteArray) true _ A1.out).mono ?_); rintro e w27 ⟨rfl, hb⟩; refine ⟨_, rfl, ?_⟩; have n0_ := Aside0.mk (below_step (by repeat (first | (with_reducible first | exact HB.out | apply below_alloc | apply pw_below_drewN | apply below_drew1) | exact HB.out)) hb); clear HB; have HB := n0_; clear n0_; (try clear hb); (try clear hb2); (try clear hk); (try clear hi)) | (go_at_call 13; (with_reducible refine (pattern_Match.calls k (⟨#[97, 47, 42]⟩ : ByteArray) (⟨#[97, 47, 98, 47, 99]⟩ : ByteArray) false _ A3.out).mono ?_); rintro e w28 ⟨rfl, hb⟩; have n0_ := Aside0.mk (below_step (by repeat (first | (with_reducible first | exact HB.out | apply below_alloc | apply pw_below_drewN | apply below_drew1) | exact HB.out)) hb); clear HB; have HB := n0_; clear n0_; (try clear hb); (try clear hb2); (try clear hk); (try clear hi)) | (go_at_call 13; (with_reducible refine (pattern_Match.calls k (⟨#[97, 47, 42, 42]⟩ : ByteArray) (⟨#[97]⟩ : ByteArray) true _ A7.out).mono ?_); rintro e w29 ⟨rfl, hb⟩; have n0_ := Aside0.mk (below_step (by repeat (first | (with_reducible first | exact HB.out | apply below_alloc | apply pw_below_drewN | apply below_drew1) | exact HB.out)) hb); clear HB; have HB := n0_; clear n0_; (try clear hb); (try clear hb2); (try clear hk); (try clear hi)) | (go_at_call 15; (with_reducible refine (pattern_Covers.calls k (⟨#[97, 47, 42, 42]⟩ : ByteArray) (⟨#[97, 47, 42, 47, 99]⟩ : ByteArray) true _ A9.out).mono ?_); rintro e w30 ⟨rfl, hb⟩; have n0_ := Aside0.mk (below_step (by repeat (first | (with_reducible first | exact HB.out | apply below_alloc | apply pw_below_drewN | apply below_drew1) | exact HB.out)) hb); clear HB; have HB := n0_; clear n0_; (try clear hb); (try clear hb2); (try clear hk); (try clear hi)) | (go_at_call 15; (with_reducible refine (pattern_Covers.calls k (⟨#[97, 47, 42]⟩ : ByteArray) (⟨#[97, 47, 42, 42]⟩ : ByteArray) false _ A11.out).mono ?_); rintro e w31 ⟨rfl, hb⟩; have n0_ := Aside0.mk (below_step (by repeat (first | (with_reducible first | exact HB.out | apply below_alloc | apply pw_below_drewN | apply below_drew1) | exact HB.out)) hb); clear HB; have HB := n0_; clear n0_; (try clear hb); (try clear hb2); (try clear hk); (try clear hi)) | (go_at_call 17; (with_reducible refine (pattern_Meets.calls k (⟨#[42, 47, 98]⟩ : ByteArray) (⟨#[97, 47, 42]⟩ : ByteArray) false _ A18.out).mono ?_); rintro e w32 ⟨rfl, hb⟩; have n0_ := Aside0.mk (below_step (by repeat (first | (with_reducible first | exact HB.out | apply below_alloc | apply pw_below_drewN | apply below_drew1) | exact HB.out)) hb); clear HB; have HB := n0_; clear n0_; (try clear hb); (try clear hb2); (try clear hk); (try clear hi)))
              go_ret
              exact ⟨by first | rfl | (simp [errW_none, errW_some] <;> rfl) | (simp [*, errW_none, errW_some] <;> rfl), by repeat (first | (with_reducible first | exact HB.out | apply below_alloc | apply pw_below_drewN | apply below_drew1) | exact HB.out)⟩
        · replace c10 := Bool.eq_false_iff.mpr c10
          subst c10
          have H1 : (some false) = some r := by rw [if_neg (show ¬ (false = true) by decide)] at H; exact H
          clear H
          have H := H1
          clear H1
          obtain rfl := Option.some.inj H
          go_enter Try.func8, Try.ntmps8
          go_wp2_with (first | ((with_reducible refine gate_callee (f := 13) rfl ?_); refine goesL_ (some 1) rfl rfl Try.func13 (by kernel_rfl) rfl #[.string (⟨#[97, 47, 42]⟩ : ByteArray), .string (⟨#[97, 47, 98]⟩ : ByteArray)] rfl (by (try simp only [List.map_toArray, List.map_cons, List.map_nil]); first | done | rfl | (simp only [List.length_drop, List.length_take]; rfl)) ?_; (with_reducible refine (pattern_Match.calls k (⟨#[97, 47, 42]⟩ : ByteArray) (⟨#[97, 47, 98]⟩ : ByteArray) true _ A1.out).mono ?_); rintro e w33 ⟨rfl, hb⟩; refine ⟨_, rfl, ?_⟩; have n0_ := Aside0.mk (below_step (by repeat (first | (with_reducible first | exact HB.out | apply below_alloc | apply pw_below_drewN | apply below_drew1) | exact HB.out)) hb); clear HB; have HB := n0_; clear n0_; (try clear hb); (try clear hb2); (try clear hk); (try clear hi)) | (go_at_call 13; (with_reducible refine (pattern_Match.calls k (⟨#[97, 47, 42]⟩ : ByteArray) (⟨#[97, 47, 98, 47, 99]⟩ : ByteArray) false _ A3.out).mono ?_); rintro e w34 ⟨rfl, hb⟩; have n0_ := Aside0.mk (below_step (by repeat (first | (with_reducible first | exact HB.out | apply below_alloc | apply pw_below_drewN | apply below_drew1) | exact HB.out)) hb); clear HB; have HB := n0_; clear n0_; (try clear hb); (try clear hb2); (try clear hk); (try clear hi)) | (go_at_call 13; (with_reducible refine (pattern_Match.calls k (⟨#[97, 47, 42, 42]⟩ : ByteArray) (⟨#[97]⟩ : ByteArray) true _ A7.out).mono ?_); rintro e w35 ⟨rfl, hb⟩; have n0_ := Aside0.mk (below_step (by repeat (first | (with_reducible first | exact HB.out | apply below_alloc | apply pw_below_drewN | apply below_drew1) | exact HB.out)) hb); clear HB; have HB := n0_; clear n0_; (try clear hb); (try clear hb2); (try clear hk); (try clear hi)) | (go_at_call 15; (with_reducible refine (pattern_Covers.calls k (⟨#[97, 47, 42, 42]⟩ : ByteArray) (⟨#[97, 47, 42, 47, 99]⟩ : ByteArray) false _ A9.out).mono ?_); rintro e w36 ⟨rfl, hb⟩; have n0_ := Aside0.mk (below_step (by repeat (first | (with_reducible first | exact HB.out | apply below_alloc | apply pw_below_drewN | apply below_drew1) | exact HB.out)) hb); clear HB; have HB := n0_; clear n0_; (try clear hb); (try clear hb2); (try clear hk); (try clear hi)))
          go_ret
          exact ⟨by first | rfl | (simp [errW_none, errW_some] <;> rfl) | (simp [*, errW_none, errW_some] <;> rfl), by repeat (first | (with_reducible first | exact HB.out | apply below_alloc | apply pw_below_drewN | apply below_drew1) | exact HB.out)⟩
      · replace c8 := Bool.eq_false_iff.mpr c8
        subst c8
        have H1 : (some false) = some r := by rw [if_neg (show ¬ (false = true) by decide)] at H; exact H
        clear H
        have H := H1
        clear H1
        obtain rfl := Option.some.inj H
        go_enter Try.func8, Try.ntmps8
        go_wp2_with (first | ((with_reducible refine gate_callee (f := 13) rfl ?_); refine goesL_ (some 1) rfl rfl Try.func13 (by kernel_rfl) rfl #[.string (⟨#[97, 47, 42]⟩ : ByteArray), .string (⟨#[97, 47, 98]⟩ : ByteArray)] rfl (by (try simp only [List.map_toArray, List.map_cons, List.map_nil]); first | done | rfl | (simp only [List.length_drop, List.length_take]; rfl)) ?_; (with_reducible refine (pattern_Match.calls k (⟨#[97, 47, 42]⟩ : ByteArray) (⟨#[97, 47, 98]⟩ : ByteArray) true _ A1.out).mono ?_); rintro e w37 ⟨rfl, hb⟩; refine ⟨_, rfl, ?_⟩; have n0_ := Aside0.mk (below_step (by repeat (first | (with_reducible first | exact HB.out | apply below_alloc | apply pw_below_drewN | apply below_drew1) | exact HB.out)) hb); clear HB; have HB := n0_; clear n0_; (try clear hb); (try clear hb2); (try clear hk); (try clear hi)) | (go_at_call 13; (with_reducible refine (pattern_Match.calls k (⟨#[97, 47, 42]⟩ : ByteArray) (⟨#[97, 47, 98, 47, 99]⟩ : ByteArray) false _ A3.out).mono ?_); rintro e w38 ⟨rfl, hb⟩; have n0_ := Aside0.mk (below_step (by repeat (first | (with_reducible first | exact HB.out | apply below_alloc | apply pw_below_drewN | apply below_drew1) | exact HB.out)) hb); clear HB; have HB := n0_; clear n0_; (try clear hb); (try clear hb2); (try clear hk); (try clear hi)) | (go_at_call 13; (with_reducible refine (pattern_Match.calls k (⟨#[97, 47, 42, 42]⟩ : ByteArray) (⟨#[97]⟩ : ByteArray) false _ A7.out).mono ?_); rintro e w39 ⟨rfl, hb⟩; have n0_ := Aside0.mk (below_step (by repeat (first | (with_reducible first | exact HB.out | apply below_alloc | apply pw_below_drewN | apply below_drew1) | exact HB.out)) hb); clear HB; have HB := n0_; clear n0_; (try clear hb); (try clear hb2); (try clear hk); (try clear hi)))
        go_ret
        exact ⟨by first | rfl | (simp [errW_none, errW_some] <;> rfl) | (simp [*, errW_none, errW_some] <;> rfl), by repeat (first | (with_reducible first | exact HB.out | apply below_alloc | apply pw_below_drewN | apply below_drew1) | exact HB.out)⟩
  · replace c2 := Bool.eq_false_iff.mpr c2
    subst c2
    have H1 : (some false) = some r := by rw [if_neg (show ¬ (false = true) by decide)] at H; exact H
    clear H
    have H := H1
    clear H1
    obtain rfl := Option.some.inj H
    go_enter Try.func8, Try.ntmps8
    go_wp2_with (first | ((with_reducible refine gate_callee (f := 13) rfl ?_); refine goesL_ (some 1) rfl rfl Try.func13 (by kernel_rfl) rfl #[.string (⟨#[97, 47, 42]⟩ : ByteArray), .string (⟨#[97, 47, 98]⟩ : ByteArray)] rfl (by (try simp only [List.map_toArray, List.map_cons, List.map_nil]); first | done | rfl | (simp only [List.length_drop, List.length_take]; rfl)) ?_; (with_reducible refine (pattern_Match.calls k (⟨#[97, 47, 42]⟩ : ByteArray) (⟨#[97, 47, 98]⟩ : ByteArray) false _ A1.out).mono ?_); rintro e w40 ⟨rfl, hb⟩; refine ⟨_, rfl, ?_⟩; have n0_ := Aside0.mk (below_step (by repeat (first | (with_reducible first | exact HB.out | apply below_alloc | apply pw_below_drewN | apply below_drew1) | exact HB.out)) hb); clear HB; have HB := n0_; clear n0_; (try clear hb); (try clear hb2); (try clear hk); (try clear hi)))
    go_ret
    exact ⟨by first | rfl | (simp [errW_none, errW_some] <;> rfl) | (simp [*, errW_none, errW_some] <;> rfl), by repeat (first | (with_reducible first | exact HB.out | apply below_alloc | apply pw_below_drewN | apply below_drew1) | exact HB.out)⟩

end Go.Proofs.Ytlcgmlfiggkppaa.Q

-- By px.py, a program of this session that drives the kit's printer: laid out of the translation; Lean checks it.
namespace Go.Proofs.Ytlcgmlfiggkppaa.Q
open Go.RowKit Go.Proofs.YtlcgmlfiggkppaaW.PrintWords Go.Proofs.YtlcgmlfiggkppaaW.PrintLast Go.Proofs.YtlcgmlfiggkppaaW.PrintMore
attribute [local go_sem] max2_int min2_int max_two min_two max_three min_three max_four min_four   -- for this text's walks alone
set_option linter.unusedVariables false
set_option linter.unusedSimpArgs false

/-! ### surmiselaw08_PatternCovers: function 4 -/
def surmiselaw08_PatternCovers.f (k : Nat) (a0 : ByteArray) (a1 : ByteArray) : Option (Bool) := (surmiselaw08_awake.f k).bind fun t280 => (if t280 = true then ((pattern_Covers.f k a0 a1).bind fun t281 => ((surmiseref08_Covers.f k a0 a1).bind fun t282 => (if (t281 == t282) = true then ((pattern_Meets.f k a0 a1).bind fun t283 => ((surmiseref08_Meets.f k a0 a1).bind fun t284 => (if (t283 == t284) = true then ((pattern_Meets.f k a0 a1).bind fun t285 => ((pattern_Meets.f k a1 a0).bind fun t286 => (some (t285 == t286)))) else (some false)))) else (some false)))) else (some false))
theorem surmiselaw08_PatternCovers.mono : ∀ a0 a1 k, LeO (surmiselaw08_PatternCovers.f k a0 a1) (surmiselaw08_PatternCovers.f (k + 1) a0 a1) := by
  intro a0 a1 k
  unfold surmiselaw08_PatternCovers.f
  repeat' first
      | (with_reducible exact pattern_Covers.mono _ _ _)
      | (with_reducible exact pattern_Meets.mono _ _ _)
      | (with_reducible exact surmiselaw08_awake.mono _)
      | (with_reducible exact surmiseref08_Covers.mono _ _ _)
      | (with_reducible exact surmiseref08_Meets.mono _ _ _)
      | (with_reducible exact LeO.refl _)
      | (with_reducible exact LeO.none _)
      | (with_reducible refine LeO.ite ?_ ?_)
      | (with_reducible refine LeO.bind ?_ (fun _ => ?_))
      | exact pattern_Covers.mono _ _ _
      | exact pattern_Meets.mono _ _ _
      | exact surmiselaw08_awake.mono _
      | exact surmiseref08_Covers.mono _ _ _
      | exact surmiseref08_Meets.mono _ _ _
      | exact LeO.none _
      | refine LeO.ite ?_ ?_
      | refine LeO.bind ?_ (fun _ => ?_)
set_option maxHeartbeats 8000000 in
set_option maxRecDepth 100000 in
theorem surmiselaw08_PatternCovers.calls (k : Nat) (a0 : ByteArray) (a1 : ByteArray) (r : Bool) (w : World) (h : surmiselaw08_PatternCovers.f k a0 a1 = some r) :
    Calls Try.prog 4 #[.string a0, .string a1] w fun e w' => e = .returned (.bool r) ∧ Below w.heap.size w w' := by
  have HB := Aside0.mk (Below.refl w.heap.size w)
  have H : ((surmiselaw08_awake.f k).bind fun t280 => (if t280 = true then ((pattern_Covers.f k a0 a1).bind fun t281 => ((surmiseref08_Covers.f k a0 a1).bind fun t282 => (if (t281 == t282) = true then ((pattern_Meets.f k a0 a1).bind fun t283 => ((surmiseref08_Meets.f k a0 a1).bind fun t284 => (if (t283 == t284) = true then ((pattern_Meets.f k a0 a1).bind fun t285 => ((pattern_Meets.f k a1 a0).bind fun t286 => (some (t285 == t286)))) else (some false)))) else (some false)))) else (some false))) = some r := h
  clear h
  replace H := Option.bind_eq_some_iff.mp H
  obtain ⟨t280, A30, H⟩ := H
  replace H : (if t280 = true then ((pattern_Covers.f k a0 a1).bind fun t281 => ((surmiseref08_Covers.f k a0 a1).bind fun t282 => (if (t281 == t282) = true then ((pattern_Meets.f k a0 a1).bind fun t283 => ((surmiseref08_Meets.f k a0 a1).bind fun t284 => (if (t283 == t284) = true then ((pattern_Meets.f k a0 a1).bind fun t285 => ((pattern_Meets.f k a1 a0).bind fun t286 => (some (t285 == t286)))) else (some false)))) else (some false)))) else (some false)) = some r := H
  have A3 := Aside0.mk A30
  clear A30
  by_cases c4 : t280 = true
  · subst c4
    have H1 : ((pattern_Covers.f k a0 a1).bind fun t281 => ((surmiseref08_Covers.f k a0 a1).bind fun t282 => (if (t281 == t282) = true then ((pattern_Meets.f k a0 a1).bind fun t283 => ((surmiseref08_Meets.f k a0 a1).bind fun t284 => (if (t283 == t284) = true then ((pattern_Meets.f k a0 a1).bind fun t285 => ((pattern_Meets.f k a1 a0).bind fun t286 => (some (t285 == t286)))) else (some false)))) else (some false)))) = some r := by rw [if_pos rfl] at H; exact H
    clear H
    have H := H1
    clear H1
    replace H := Option.bind_eq_some_iff.mp H
    obtain ⟨t281, A50, H⟩ := H
    replace H : ((surmiseref08_Covers.f k a0 a1).bind fun t282 => (if (t281 == t282) = true then ((pattern_Meets.f k a0 a1).bind fun t283 => ((surmiseref08_Meets.f k a0 a1).bind fun t284 => (if (t283 == t284) = true then ((pattern_Meets.f k a0 a1).bind fun t285 => ((pattern_Meets.f k a1 a0).bind fun t286 => (some (t285 == t286)))) else (some false)))) else (some false))) = some r := H
    have A5 := Aside0.mk A50
    clear A50
    replace H := Option.bind_eq_some_iff.mp H
    obtain ⟨t282, A60, H⟩ := H
    replace H : (if (t281 == t282) = true then ((pattern_Meets.f k a0 a1).bind fun t283 => ((surmiseref08_Meets.f k a0 a1).bind fun t284 => (if (t283 == t284) = true then ((pattern_Meets.f k a0 a1).bind fun t285 => ((pattern_Meets.f k a1 a0).bind fun t286 => (some (t285 == t286)))) else (some false)))) else (some false)) = some r := H
    have A6 := Aside0.mk A60
    clear A60
    by_cases c7 : (t281 == t282) = true
    · rw [if_pos c7] at H
      have c7b0 : (t281 == t282) = true := c7
      (try (have c7b1 : decide (t281 = t282) = true := by simpa using c7))
      (try (have c7b2 : (t281 == t282) = true := by simpa using c7))
      clear c7
      replace H := Option.bind_eq_some_iff.mp H
      obtain ⟨t283, A80, H⟩ := H
      replace H : ((surmiseref08_Meets.f k a0 a1).bind fun t284 => (if (t283 == t284) = true then ((pattern_Meets.f k a0 a1).bind fun t285 => ((pattern_Meets.f k a1 a0).bind fun t286 => (some (t285 == t286)))) else (some false))) = some r := H
      have A8 := Aside0.mk A80
      clear A80
      replace H := Option.bind_eq_some_iff.mp H
      obtain ⟨t284, A90, H⟩ := H
      replace H : (if (t283 == t284) = true then ((pattern_Meets.f k a0 a1).bind fun t285 => ((pattern_Meets.f k a1 a0).bind fun t286 => (some (t285 == t286)))) else (some false)) = some r := H
      have A9 := Aside0.mk A90
      clear A90
      by_cases c10 : (t283 == t284) = true
      · rw [if_pos c10] at H
        have c10b0 : (t283 == t284) = true := c10
        (try (have c10b1 : decide (t283 = t284) = true := by simpa using c10))
        (try (have c10b2 : (t283 == t284) = true := by simpa using c10))
        clear c10
        replace H := Option.bind_eq_some_iff.mp H
        obtain ⟨t285, A110, H⟩ := H
        replace H : ((pattern_Meets.f k a1 a0).bind fun t286 => (some (t285 == t286))) = some r := H
        have A11 := Aside0.mk A110
        clear A110
        have et285 := Option.some.inj (A11.out.symm.trans A8.out)
        replace H := Option.bind_eq_some_iff.mp H
        obtain ⟨t286, A120, H⟩ := H
        replace H : (some (t285 == t286)) = some r := H
        have A12 := Aside0.mk A120
        clear A120
        obtain rfl := Option.some.inj H
        go_enter Try.func4, Try.ntmps4
        go_wp2_with (first | ((with_reducible refine gate_callee (f := 8) rfl ?_); refine goesL_ (some 5) rfl rfl Try.func8 (by kernel_rfl) rfl #[] rfl (by (try simp only [List.map_toArray, List.map_cons, List.map_nil]); first | done | rfl | (simp only [List.length_drop, List.length_take]; rfl)) ?_; (with_reducible refine (surmiselaw08_awake.calls k  true _ A3.out).mono ?_); rintro e w13 ⟨rfl, hb⟩; refine ⟨_, rfl, ?_⟩; have n0_ := Aside0.mk (below_step (by repeat (first | (with_reducible first | exact HB.out | apply below_alloc | apply pw_below_drewN | apply below_drew1) | exact HB.out)) hb); clear HB; have HB := n0_; clear n0_; (try clear hb); (try clear hb2); (try clear hk); (try clear hi)) | (go_at_call 15; (with_reducible refine (pattern_Covers.calls k a0 a1 t281 _ A5.out).mono ?_); rintro e w14 ⟨rfl, hb⟩; have n0_ := Aside0.mk (below_step (by repeat (first | (with_reducible first | exact HB.out | apply below_alloc | apply pw_below_drewN | apply below_drew1) | exact HB.out)) hb); clear HB; have HB := n0_; clear n0_; (try clear hb); (try clear hb2); (try clear hk); (try clear hi)) | (go_at_call 16; (with_reducible refine (surmiseref08_Covers.calls k a0 a1 t282 _ A6.out).mono ?_); rintro e w15 ⟨rfl, hb⟩; have n0_ := Aside0.mk (below_step (by repeat (first | (with_reducible first | exact HB.out | apply below_alloc | apply pw_below_drewN | apply below_drew1) | exact HB.out)) hb); clear HB; have HB := n0_; clear n0_; (try clear hb); (try clear hb2); (try clear hk); (try clear hi)) | (go_at_call 17; (with_reducible refine (pattern_Meets.calls k a0 a1 t283 _ A8.out).mono ?_); rintro e w16 ⟨rfl, hb⟩; have n0_ := Aside0.mk (below_step (by repeat (first | (with_reducible first | exact HB.out | apply below_alloc | apply pw_below_drewN | apply below_drew1) | exact HB.out)) hb); clear HB; have HB := n0_; clear n0_; (try clear hb); (try clear hb2); (try clear hk); (try clear hi)) | (go_at_call 18; (with_reducible refine (surmiseref08_Meets.calls k a0 a1 t284 _ A9.out).mono ?_); rintro e w17 ⟨rfl, hb⟩; have n0_ := Aside0.mk (below_step (by repeat (first | (with_reducible first | exact HB.out | apply below_alloc | apply pw_below_drewN | apply below_drew1) | exact HB.out)) hb); clear HB; have HB := n0_; clear n0_; (try clear hb); (try clear hb2); (try clear hk); (try clear hi)) | (go_at_call 17; (with_reducible refine (pattern_Meets.calls k a0 a1 t285 _ A11.out).mono ?_); rintro e w18 ⟨rfl, hb⟩; have n0_ := Aside0.mk (below_step (by repeat (first | (with_reducible first | exact HB.out | apply below_alloc | apply pw_below_drewN | apply below_drew1) | exact HB.out)) hb); clear HB; have HB := n0_; clear n0_; (try clear hb); (try clear hb2); (try clear hk); (try clear hi)) | (go_at_call 17; (with_reducible refine (pattern_Meets.calls k a1 a0 t286 _ A12.out).mono ?_); rintro e w19 ⟨rfl, hb⟩; have n0_ := Aside0.mk (below_step (by repeat (first | (with_reducible first | exact HB.out | apply below_alloc | apply pw_below_drewN | apply below_drew1) | exact HB.out)) hb); clear HB; have HB := n0_; clear n0_; (try clear hb); (try clear hb2); (try clear hk); (try clear hi)))
        go_ret
        exact ⟨by first | rfl | (simp [errW_none, errW_some] <;> rfl) | (simp [*, errW_none, errW_some] <;> rfl), by repeat (first | (with_reducible first | exact HB.out | apply below_alloc | apply pw_below_drewN | apply below_drew1) | exact HB.out)⟩
      · rw [if_neg c10] at H
        have c10b0 : (t283 == t284) = false := by simpa using c10
        (try (have c10b1 : decide (t283 = t284) = false := by simpa using c10))
        (try (have c10b2 : (t283 == t284) = false := by simpa using c10))
        (try (have c10b3 : ¬ (t283 = t284) := by simpa using c10))
        clear c10
        obtain rfl := Option.some.inj H
        go_enter Try.func4, Try.ntmps4
        go_wp2_with (first | ((with_reducible refine gate_callee (f := 8) rfl ?_); refine goesL_ (some 5) rfl rfl Try.func8 (by kernel_rfl) rfl #[] rfl (by (try simp only [List.map_toArray, List.map_cons, List.map_nil]); first | done | rfl | (simp only [List.length_drop, List.length_take]; rfl)) ?_; (with_reducible refine (surmiselaw08_awake.calls k  true _ A3.out).mono ?_); rintro e w20 ⟨rfl, hb⟩; refine ⟨_, rfl, ?_⟩; have n0_ := Aside0.mk (below_step (by repeat (first | (with_reducible first | exact HB.out | apply below_alloc | apply pw_below_drewN | apply below_drew1) | exact HB.out)) hb); clear HB; have HB := n0_; clear n0_; (try clear hb); (try clear hb2); (try clear hk); (try clear hi)) | (go_at_call 15; (with_reducible refine (pattern_Covers.calls k a0 a1 t281 _ A5.out).mono ?_); rintro e w21 ⟨rfl, hb⟩; have n0_ := Aside0.mk (below_step (by repeat (first | (with_reducible first | exact HB.out | apply below_alloc | apply pw_below_drewN | apply below_drew1) | exact HB.out)) hb); clear HB; have HB := n0_; clear n0_; (try clear hb); (try clear hb2); (try clear hk); (try clear hi)) | (go_at_call 16; (with_reducible refine (surmiseref08_Covers.calls k a0 a1 t282 _ A6.out).mono ?_); rintro e w22 ⟨rfl, hb⟩; have n0_ := Aside0.mk (below_step (by repeat (first | (with_reducible first | exact HB.out | apply below_alloc | apply pw_below_drewN | apply below_drew1) | exact HB.out)) hb); clear HB; have HB := n0_; clear n0_; (try clear hb); (try clear hb2); (try clear hk); (try clear hi)) | (go_at_call 17; (with_reducible refine (pattern_Meets.calls k a0 a1 t283 _ A8.out).mono ?_); rintro e w23 ⟨rfl, hb⟩; have n0_ := Aside0.mk (below_step (by repeat (first | (with_reducible first | exact HB.out | apply below_alloc | apply pw_below_drewN | apply below_drew1) | exact HB.out)) hb); clear HB; have HB := n0_; clear n0_; (try clear hb); (try clear hb2); (try clear hk); (try clear hi)) | (go_at_call 18; (with_reducible refine (surmiseref08_Meets.calls k a0 a1 t284 _ A9.out).mono ?_); rintro e w24 ⟨rfl, hb⟩; have n0_ := Aside0.mk (below_step (by repeat (first | (with_reducible first | exact HB.out | apply below_alloc | apply pw_below_drewN | apply below_drew1) | exact HB.out)) hb); clear HB; have HB := n0_; clear n0_; (try clear hb); (try clear hb2); (try clear hk); (try clear hi)))
        go_ret
        exact ⟨by first | rfl | (simp [errW_none, errW_some] <;> rfl) | (simp [*, errW_none, errW_some] <;> rfl), by repeat (first | (with_reducible first | exact HB.out | apply below_alloc | apply pw_below_drewN | apply below_drew1) | exact HB.out)⟩
    · rw [if_neg c7] at H
      have c7b0 : (t281 == t282) = false := by simpa using c7
      (try (have c7b1 : decide (t281 = t282) = false := by simpa using c7))
      (try (have c7b2 : (t281 == t282) = false := by simpa using c7))
      (try (have c7b3 : ¬ (t281 = t282) := by simpa using c7))
      clear c7
      obtain rfl := Option.some.inj H
      go_enter Try.func4, Try.ntmps4
      go_wp2_with (first | ((with_reducible refine gate_callee (f := 8) rfl ?_); refine goesL_ (some 5) rfl rfl Try.func8 (by kernel_rfl) rfl #[] rfl (by (try simp only [List.map_toArray, List.map_cons, List.map_nil]); first | done | rfl | (simp only [List.length_drop, List.length_take]; rfl)) ?_; (with_reducible refine (surmiselaw08_awake.calls k  true _ A3.out).mono ?_); rintro e w25 ⟨rfl, hb⟩; refine ⟨_, rfl, ?_⟩; have n0_ := Aside0.mk (below_step (by repeat (first | (with_reducible first | exact HB.out | apply below_alloc | apply pw_below_drewN | apply below_drew1) | exact HB.out)) hb); clear HB; have HB := n0_; clear n0_; (try clear hb); (try clear hb2); (try clear hk); (try clear hi)) | (go_at_call 15; (with_reducible refine (pattern_Covers.calls k a0 a1 t281 _ A5.out).mono ?_); rintro e w26 ⟨rfl, hb⟩; have n0_ := Aside0.mk (below_step (by repeat (first | (with_reducible first | exact HB.out | apply below_alloc | apply pw_below_drewN | apply below_drew1) | exact HB.out)) hb); clear HB; have HB := n0_; clear n0_; (try clear hb); (try clear hb2); (try clear hk); (try clear hi)) | (go_at_call 16; (with_reducible refine (surmiseref08_Covers.calls k a0 a1 t282 _ A6.out).mono ?_); rintro e w27 ⟨rfl, hb⟩; have n0_ := Aside0.mk (below_step (by repeat (first | (with_reducible first | exact HB.out | apply below_alloc | apply pw_below_drewN | apply below_drew1) | exact HB.out)) hb); clear HB; have HB := n0_; clear n0_; (try clear hb); (try clear hb2); (try clear hk); (try clear hi)))
      go_ret
      exact ⟨by first | rfl | (simp [errW_none, errW_some] <;> rfl) | (simp [*, errW_none, errW_some] <;> rfl), by repeat (first | (with_reducible first | exact HB.out | apply below_alloc | apply pw_below_drewN | apply below_drew1) | exact HB.out)⟩
  · replace c4 := Bool.eq_false_iff.mpr c4
    subst c4
    have H1 : (some false) = some r := by rw [if_neg (show ¬ (false = true) by decide)] at H; exact H
    clear H
    have H := H1
    clear H1
    obtain rfl := Option.some.inj H
    go_enter Try.func4, Try.ntmps4
    go_wp2_with (first | ((with_reducible refine gate_callee (f := 8) rfl ?_); refine goesL_ (some 5) rfl rfl Try.func8 (by kernel_rfl) rfl #[] rfl (by (try simp only [List.map_toArray, List.map_cons, List.map_nil]); first | done | rfl | (simp only [List.length_drop, List.length_take]; rfl)) ?_; (with_reducible refine (surmiselaw08_awake.calls k  false _ A3.out).mono ?_); rintro e w28 ⟨rfl, hb⟩; refine ⟨_, rfl, ?_⟩; have n0_ := Aside0.mk (below_step (by repeat (first | (with_reducible first | exact HB.out | apply below_alloc | apply pw_below_drewN | apply below_drew1) | exact HB.out)) hb); clear HB; have HB := n0_; clear n0_; (try clear hb); (try clear hb2); (try clear hk); (try clear hi)))
    go_ret
    exact ⟨by first | rfl | (simp [errW_none, errW_some] <;> rfl) | (simp [*, errW_none, errW_some] <;> rfl), by repeat (first | (with_reducible first | exact HB.out | apply below_alloc | apply pw_below_drewN | apply below_drew1) | exact HB.out)⟩

/-- THE ONE PURE STATEMENT of surmiselaw08_PatternCovers: yours. -/
def surmiselaw08_PatternCovers.Pure : Prop := ∀ (a0 : ByteArray) (a1 : ByteArray), a0.size ≤ 140737488351232 → a1.size ≤ 140737488351232 → ∃ k, surmiselaw08_PatternCovers.f k a0 a1 = some true
theorem surmiselaw08_PatternCovers.walk (P : surmiselaw08_PatternCovers.Pure) (a0 : ByteArray) (a1 : ByteArray) (w : World) (w0 : a0.size ≤ 140737488351232) (w1 : a1.size ≤ 140737488351232) :
    Calls Try.prog 4 #[.string a0, .string a1] w fun e w' => e = .returned (.bool true) ∧ Below w.heap.size w w' := by
  obtain ⟨k, h⟩ := P a0 a1 w0 w1
  refine (surmiselaw08_PatternCovers.calls k a0 a1 true w h).mono ?_
  rintro e w' ⟨rfl, hd⟩
  exact ⟨rfl, hd⟩

end Go.Proofs.Ytlcgmlfiggkppaa.Q

/- Small words that all hand-written texts of this seat share. -/
namespace Go.Proofs.Ytlcgmlfiggkppaa.Q
open Go.RowKit Go.Proofs.YtlcgmlfiggkppaaW.PrintWords Go.Proofs.YtlcgmlfiggkppaaW.PrintLast Go.Proofs.YtlcgmlfiggkppaaW.PrintMore

theorem ret_int {k : IntKind} {a b : Int} (h : a = b) : Ending.returned (.int k a) = .returned (.int k b) := by rw [h]
theorem ret_str {a b : ByteArray} (h : a = b) : Ending.returned (.string a) = .returned (.string b) := by rw [h]
theorem ret_bool {a b : Bool} (h : a = b) : Ending.returned (.bool a) = .returned (.bool b) := by rw [h]
theorem ret_val {a b : Value} (h : a = b) : Ending.returned a = .returned b := by rw [h]
theorem ret_two {a b c d : Value} (h : a = b) (k : c = d) : Ending.returned (.tuple #[a, c]) = .returned (.tuple #[b, d]) := by rw [h, k]
theorem ret_three {a b c d e f : Value} (h : a = b) (k : c = d) (l : e = f) : Ending.returned (.tuple #[a, c, e]) = .returned (.tuple #[b, d, f]) := by rw [h, k, l]
theorem bits_u32 (op : BinOp) (x y : Int) : 0 ≤ Go.bits op .u32 x y ∧ Go.bits op .u32 x y < 4294967296 := by
  unfold Go.bits
  rw [IntKind.wrap_u32]
  omega
theorem bits_u8 (op : BinOp) (x y : Int) : 0 ≤ Go.bits op .u8 x y ∧ Go.bits op .u8 x y < 256 := by
  unfold Go.bits
  rw [IntKind.wrap_u8]
  omega
theorem below_row {B g : Nat} {w0 w : World} (hb : Below B w0 w) (hg : B ≤ g) (cs : Array Value) : Below B w0 (w.setRow g cs) :=
  ⟨hb.os, hb.tape, hb.output, by simpa using hb.size, fun i hi => (setRow_other w g i cs (by omega)).trans (hb.block i hi)⟩
theorem xor_u32 (a b : Nat) (ha : a < 4294967296) (hb : b < 4294967296) : Go.bits .xor .u32 (a : Int) (b : Int) = ((a ^^^ b : Nat) : Int) := by
  have h32 : a ^^^ b < 4294967296 := Nat.xor_lt_two_pow (n := 32) ha hb
  unfold Go.bits
  rw [IntKind.wrap_u32]
  simp only [BitVec.ofInt_natCast, BitVec.toNat_xor, BitVec.toNat_ofNat]
  have e1 : a % 2 ^ IntKind.u32.bits = a := Nat.mod_eq_of_lt ha
  have e2 : b % 2 ^ IntKind.u32.bits = b := Nat.mod_eq_of_lt hb
  rw [e1, e2]
  omega
theorem xor_u8 (a b : Nat) (ha : a < 256) (hb : b < 256) : Go.bits .xor .u8 (a : Int) (b : Int) = ((a ^^^ b : Nat) : Int) := by
  have h8 : a ^^^ b < 256 := Nat.xor_lt_two_pow (n := 8) ha hb
  unfold Go.bits
  rw [IntKind.wrap_u8]
  simp only [BitVec.ofInt_natCast, BitVec.toNat_xor, BitVec.toNat_ofNat]
  have e1 : a % 2 ^ IntKind.u8.bits = a := Nat.mod_eq_of_lt ha
  have e2 : b % 2 ^ IntKind.u8.bits = b := Nat.mod_eq_of_lt hb
  rw [e1, e2]
  omega
theorem and1_u32 (a : Nat) (ha : a < 4294967296) : Go.bits .and .u32 (a : Int) 1 = ((a % 2 : Nat) : Int) := by
  have h := bits_mask .u32 32 (by decide) (fun n h0 h1 => by rw [IntKind.wrap_u32]; omega) 1 (by decide) (a : Int) (by omega) (by omega)
  simpa using h

end Go.Proofs.Ytlcgmlfiggkppaa.Q

/- Strings as lists of numbers: small lemmas without a program. -/
namespace Go.Proofs.Ytlcgmlfiggkppaa.Q
open Go.RowKit Go.Proofs.YtlcgmlfiggkppaaW.PrintWords Go.Proofs.YtlcgmlfiggkppaaW.PrintLast Go.Proofs.YtlcgmlfiggkppaaW.PrintMore
set_option linter.unusedVariables false
set_option linter.unusedSimpArgs false

/-- A step of a chain of answers (by an equation: the kernel isn't asked to unfold anything). -/
theorem bind_of {α β : Type} {o : Option α} {x : α} (h : o = some x) (f : α → Option β) : o.bind f = f x := by rw [h]; rfl
theorem wrap_up {i : Int} (h0 : 0 ≤ i) (h : i < 9223372036854775807) : wrap64 (i + 1) = i + 1 := by
  unfold wrap64
  omega
theorem wrap_id {i : Int} (h0 : -9223372036854775808 ≤ i) (h : i ≤ 9223372036854775807) : wrap64 i = i := by
  unfold wrap64
  omega
/-- A string's bytes as numbers. -/
def bl (s : ByteArray) : List Nat := s.data.toList.map (·.toNat)
theorem bl_length (s : ByteArray) : (bl s).length = s.size := by simp [bl, data_length]
theorem bl_lt (s : ByteArray) : ∀ c ∈ bl s, c < 256 := by
  intro c hc
  simp only [bl, List.mem_map] at hc
  obtain ⟨b, _, rfl⟩ := hc
  exact b.toNat_lt
theorem bl_bt (s : ByteArray) (i : Nat) (hi : i < s.size) : bt s (i : Int) = (((bl s)[i]'(by rw [bl_length]; exact hi) : Nat) : Int) := by
  simp only [bt, Int.toNat_natCast, dif_pos hi, bl, List.getElem_map]
  rfl
theorem bl_drop (s : ByteArray) (i : Nat) (hi : i < s.size) : (bl s).drop i = (bl s)[i]'(by rw [bl_length]; exact hi) :: (bl s).drop (i + 1) := List.drop_eq_getElem_cons _

theorem bl_idx (s : ByteArray) (i : Nat) (hi : i < (bl s).length) : (bl s)[i] < 256 := bl_lt s _ (List.getElem_mem hi)
theorem str_ext {a b : ByteArray} (h : a.data.toList = b.data.toList) : a = b := by
  obtain ⟨⟨a⟩⟩ := a
  obtain ⟨⟨b⟩⟩ := b
  simp only at h
  rw [h]
theorem toList_iff {a b : ByteArray} : a.toList = b.toList ↔ a = b := by
  constructor
  · intro h
    rw [Go.Lib.toList_data, Go.Lib.toList_data] at h
    exact str_ext h
  · intro h
    rw [h]
theorem bl_inj {a b : ByteArray} (h : bl a = bl b) : a = b := by
  apply str_ext
  unfold bl at h
  generalize a.data.toList = x at h
  generalize b.data.toList = y at h
  induction x generalizing y with
  | nil => cases y with
    | nil => rfl
    | cons c y => simp at h
  | cons c x ih => cases y with
    | nil => simp at h
    | cons d y =>
      simp only [List.map_cons, List.cons.injEq] at h
      rw [UInt8.toNat_inj.1 h.1, ih y h.2]
theorem bl_append (a b : ByteArray) : bl (a ++ b) = bl a ++ bl b := by simp [bl, ByteArray.data_append]
theorem bl_extract (s : ByteArray) (i j : Nat) : bl (s.extract i j) = ((bl s).take j).drop i := by
  simp [bl, ByteArray.data_extract, List.map_drop, List.map_take]
  rw [List.drop_take]
theorem bl_nums (l : List Int) (h : ∀ x ∈ l, 0 ≤ x ∧ x < 256) : bl (strOfNums l) = l.map Int.toNat := by
  simp only [bl, strOfNums_data, List.map_map]
  apply List.map_congr_left
  intro x hx
  have := h x hx
  simp only [Function.comp_apply, UInt8.toNat_ofNat']
  omega
theorem bytesOf_bl (s : ByteArray) : bytesOf s = (bl s).map fun (n : Nat) => (n : Int) := by simp [bytesOf, bl]
theorem strOfNums_append (a b : List Int) : strOfNums (a ++ b) = strOfNums a ++ strOfNums b := by
  apply str_ext
  simp [strOfNums_data, ByteArray.data_append]
theorem strOfNums_bytesOf (s : ByteArray) : strOfNums (bytesOf s) = s := by
  apply bl_inj
  rw [bl_nums _ (by intro x hx; rw [bytesOf_bl, List.mem_map] at hx; obtain ⟨n, hn, rfl⟩ := hx; have := bl_lt s n hn; omega), bytesOf_bl, List.map_map]
  have e : (Int.toNat ∘ fun (n : Nat) => (n : Int)) = id := by funext n; rfl
  rw [e, List.map_id]

end Go.Proofs.Ytlcgmlfiggkppaa.Q

/- Parts of a text, as the program and the reference cut them. -/
namespace Go.Proofs.Ytlcgmlfiggkppaa.Q
open Go.RowKit Go.Proofs.YtlcgmlfiggkppaaW.PrintWords Go.Proofs.YtlcgmlfiggkppaaW.PrintLast Go.Proofs.YtlcgmlfiggkppaaW.PrintMore
set_option linter.unusedVariables false
set_option linter.unusedSimpArgs false

theorem getD_at (l : List Nat) (i : Nat) (h : i < l.length) : l.getD i 0 = l[i] := by simp [List.getD, h]
theorem bt_getD (s : ByteArray) (i : Nat) (h : i < s.size) : bt s (i : Int) = (((bl s).getD i 0 : Nat) : Int) := by
  rw [bl_bt s i h, getD_at _ _ (by rw [bl_length]; exact h)]
theorem cut_join (s : ByteArray) (a b c : Nat) (h1 : a ≤ b) (h2 : b ≤ c) (h3 : c ≤ s.size) : s.extract a b ++ s.extract b c = s.extract a c := by
  apply bl_inj
  rw [bl_append, bl_extract, bl_extract, bl_extract]
  have hl : (bl s).length = s.size := bl_length s
  generalize bl s = l at hl ⊢
  have e1 : l.take b = (l.take c).take b := by rw [List.take_take, Nat.min_eq_left h2]
  rw [e1]
  have hm : (l.take c).length = c := by rw [List.length_take]; omega
  generalize l.take c = m at hm ⊢
  have e2 : m = m.take b ++ m.drop b := (List.take_append_drop b m).symm
  have e3 : m.drop a = (m.take b ++ m.drop b).drop a := by rw [List.take_append_drop]
  rw [e3, List.drop_append_of_le_length (by rw [List.length_take]; omega)]
/-- What is cut from place `from`, with d bytes still ahead. -/
def cuts (s : ByteArray) : Nat → Nat → List ByteArray
  | 0, a => [s.extract a s.size]
  | d + 1, a => if (bl s).getD (s.size - (d + 1)) 0 = 47 then s.extract a (s.size - (d + 1)) :: cuts s d (s.size - d) else cuts s d a
def partsP (s : ByteArray) : List ByteArray := cuts s s.size 0
theorem cuts_len (s : ByteArray) (d : Nat) : ∀ a, 1 ≤ (cuts s d a).length ∧ (cuts s d a).length ≤ d + 1 := by
  induction d with
  | zero => intro a; exact ⟨Nat.le_refl _, Nat.le_refl _⟩
  | succ d ih =>
    intro a
    rw [cuts]
    split
    · have := ih (s.size - d)
      rw [List.length_cons]
      omega
    · have := ih a
      omega
theorem parts_len (s : ByteArray) : 1 ≤ (partsP s).length ∧ (partsP s).length ≤ s.size + 1 := cuts_len s s.size 0
theorem parts_l0 (s : ByteArray) (hs : s.size ≤ 8796093022000) (d : Nat) : ∀ (k i a : Nat) (acc : List ByteArray), i + d = s.size → a ≤ i → acc.length ≤ i → d + 1 ≤ k → pattern_parts.l0 k s acc (a : Int) (s.size : Int) (i : Int) = some (acc ++ cuts s d a) := by
  induction d with
  | zero =>
    intro k i a acc hi ha hl hk
    obtain ⟨k, rfl⟩ : ∃ k', k = k' + 1 := ⟨k - 1, by omega⟩
    rw [pattern_parts.l0, if_neg (by omega), if_pos (by omega), if_pos (by omega), if_pos (by omega), cuts, Int.toNat_natCast]
  | succ d ih =>
    intro k i a acc hi ha hl hk
    obtain ⟨k, rfl⟩ : ∃ k', k = k' + 1 := ⟨k - 1, by omega⟩
    have e : s.size - (d + 1) = i := by omega
    have e2 : s.size - d = i + 1 := by omega
    rw [pattern_parts.l0, if_pos (by omega), if_pos (by omega), if_pos (by omega), bt_getD s i (by omega), cuts, e, e2]
    by_cases h : (bl s).getD i 0 = 47
    · rw [if_pos (by omega), if_pos (by omega), if_pos (by omega), if_pos (by omega), if_pos (by omega), if_pos h, wrap_up (by omega) (by omega), Int.toNat_natCast, Int.toNat_natCast]
      have := ih k (i + 1) (i + 1) (acc ++ [s.extract a i]) (by omega) (Nat.le_refl _) (by simp; omega) (by omega)
      rw [List.append_assoc] at this
      exact this
    · rw [if_neg (by omega), if_neg h, wrap_up (by omega) (by omega)]
      exact ih k (i + 1) a acc (by omega) (by omega) (by omega) (by omega)
theorem parts_some (s : ByteArray) (hs : s.size ≤ 8796093022000) (k : Nat) (hk : s.size + 1 ≤ k) : pattern_parts.f k s = some (partsP s) := by
  have := parts_l0 s hs s.size k 0 0 [] (by omega) (Nat.le_refl _) (Nat.le_refl _) hk
  rw [List.nil_append] at this
  exact this
theorem split_l0 (s : ByteArray) (hs : s.size ≤ 8796093022000) (d : Nat) : ∀ (k i a : Nat) (acc : List ByteArray), i + d = s.size → a ≤ i → acc.length ≤ i → d + 1 ≤ k → surmiseref06_Split.l0 k s 47 acc (s.extract a i) (i : Int) = some (acc ++ cuts s d a) := by
  induction d with
  | zero =>
    intro k i a acc hi ha hl hk
    obtain ⟨k, rfl⟩ : ∃ k', k = k' + 1 := ⟨k - 1, by omega⟩
    have e : i = s.size := by omega
    rw [surmiseref06_Split.l0, if_neg (by omega), if_pos (by omega), cuts, e]
  | succ d ih =>
    intro k i a acc hi ha hl hk
    obtain ⟨k, rfl⟩ : ∃ k', k = k' + 1 := ⟨k - 1, by omega⟩
    have e : s.size - (d + 1) = i := by omega
    have e2 : s.size - d = i + 1 := by omega
    rw [surmiseref06_Split.l0, if_pos (by omega), if_pos (by omega), bt_getD s i (by omega), cuts, e, e2]
    by_cases h : (bl s).getD i 0 = 47
    · rw [if_pos (by omega), if_pos (by omega), if_pos h, wrap_up (by omega) (by omega)]
      have := ih k (i + 1) (i + 1) (acc ++ [s.extract a i]) (by omega) (Nat.le_refl _) (by simp; omega) (by omega)
      rw [List.append_assoc] at this
      have e3 : s.extract (i + 1) (i + 1) = (⟨#[]⟩ : ByteArray) := by
        apply bl_inj
        rw [bl_extract, List.drop_eq_nil_of_le (by rw [List.length_take]; omega)]
        rfl
      rw [e3] at this
      exact this
    · have hz : (s.extract a i).size ≤ s.size := by
        rw [← bl_length, bl_extract, List.length_drop, List.length_take, bl_length]
        omega
      have hz2 : (s.extract i (i + 1)).size ≤ s.size := by
        rw [← bl_length, bl_extract, List.length_drop, List.length_take, bl_length]
        omega
      have e4 : ((i : Int) + 1).toNat = i + 1 := by omega
      rw [if_neg (by omega), if_neg h, wrap_up (by omega) (by omega), if_pos (by omega), if_pos (by omega), Int.toNat_natCast, e4, if_pos (by omega), cut_join s a i (i + 1) ha (by omega) (by omega)]
      exact ih k (i + 1) a acc (by omega) (by omega) (by omega) (by omega)
theorem refparts_some (s : ByteArray) (hs : s.size ≤ 8796093022000) (k : Nat) (hk : s.size + 1 ≤ k) : surmiseref08_Parts.f k s = some (partsP s) := by
  have h0 : surmiseref06_Split.f k s 47 = some (partsP s) := by
    have := split_l0 s hs s.size k 0 0 [] (by omega) (Nat.le_refl _) (Nat.le_refl _) hk
    have e3 : s.extract 0 0 = (⟨#[]⟩ : ByteArray) := by
      apply bl_inj
      rw [bl_extract, List.drop_eq_nil_of_le (by rw [List.length_take]; omega)]
      rfl
    rw [List.nil_append, e3] at this
    exact this
  unfold surmiseref08_Parts.f
  rw [bind_of h0]

end Go.Proofs.Ytlcgmlfiggkppaa.Q

-- By px.py, a program of this session that drives the kit's printer: laid out of the translation; Lean checks it.
namespace Go.Proofs.Ytlcgmlfiggkppaa.Q
open Go.RowKit Go.Proofs.YtlcgmlfiggkppaaW.PrintWords Go.Proofs.YtlcgmlfiggkppaaW.PrintLast Go.Proofs.YtlcgmlfiggkppaaW.PrintMore
attribute [local go_sem] max2_int min2_int max_two min_two max_three min_three max_four min_four   -- for this text's walks alone
set_option linter.unusedVariables false
set_option linter.unusedSimpArgs false

/-! ### surmiseref08_Stream: function 10 -/
def surmiseref08_Stream.l0 : Nat → List ByteArray → Int → Option (Bool)
  | 0, _, _ => none
  | k + 1, x3, x4 => if x4 < (x3.length : Int) then (if 0 ≤ x4 then ((surmiseref08_Plain.f k (rdOf ByteArray.empty x3 x4)).bind fun t197 => (if t197 = true then (surmiseref08_Stream.l0 k x3 (wrap64 (x4 + 1))) else (some false))) else (none)) else (some (decide ((x3.length : Int) ≤ 4)))
def surmiseref08_Stream.f (k : Nat) (a0 : ByteArray) : Option (Bool) := if (a0.size : Int) > 32 then (some false) else ((surmiseref08_Parts.f k a0).bind fun t193 => (surmiseref08_Stream.l0 k t193 0))
theorem surmiseref08_Stream.mono_l : ∀ k, (∀ y0 y1, LeO (surmiseref08_Stream.l0 k y0 y1) (surmiseref08_Stream.l0 (k + 1) y0 y1))
  | 0 => fun _ _ r h => by simp [surmiseref08_Stream.l0] at h
  | k + 1 => by
    have ih0 := surmiseref08_Stream.mono_l k
    · intro y0 y1
      unfold surmiseref08_Stream.l0
      repeat' first
      | (with_reducible exact ih0 _ _)
      | (with_reducible exact surmiseref08_Parts.mono _ _)
      | (with_reducible exact surmiseref08_Plain.mono _ _)
      | (with_reducible exact LeO.refl _)
      | (with_reducible exact LeO.none _)
      | (with_reducible refine LeO.ite ?_ ?_)
      | (with_reducible refine LeO.bind ?_ (fun _ => ?_))
      | exact ih0 _ _
      | exact surmiseref08_Parts.mono _ _
      | exact surmiseref08_Plain.mono _ _
      | exact LeO.none _
      | refine LeO.ite ?_ ?_
      | refine LeO.bind ?_ (fun _ => ?_)
theorem surmiseref08_Stream.mono : ∀ a0 k, LeO (surmiseref08_Stream.f k a0) (surmiseref08_Stream.f (k + 1) a0) := by
  intro a0 k
  have ih0 := surmiseref08_Stream.mono_l k
  unfold surmiseref08_Stream.f
  repeat' first
      | (with_reducible exact ih0 _ _)
      | (with_reducible exact surmiseref08_Parts.mono _ _)
      | (with_reducible exact surmiseref08_Plain.mono _ _)
      | (with_reducible exact LeO.refl _)
      | (with_reducible exact LeO.none _)
      | (with_reducible refine LeO.ite ?_ ?_)
      | (with_reducible refine LeO.bind ?_ (fun _ => ?_))
      | exact ih0 _ _
      | exact surmiseref08_Parts.mono _ _
      | exact surmiseref08_Plain.mono _ _
      | exact LeO.none _
      | refine LeO.ite ?_ ?_
      | refine LeO.bind ?_ (fun _ => ?_)
set_option maxHeartbeats 8000000 in
set_option maxRecDepth 100000 in
theorem surmiseref08_Stream.calls (k : Nat) (a0 : ByteArray) (r : Bool) (w : World) (h : surmiseref08_Stream.f k a0 = some r) :
    Calls Try.prog 10 #[.string a0] w fun e w' => e = .returned (.bool r) ∧ Below w.heap.size w w' := by
  have HB := Aside0.mk (Below.refl w.heap.size w)
  have H : (if (a0.size : Int) > 32 then (some false) else ((surmiseref08_Parts.f k a0).bind fun t193 => (surmiseref08_Stream.l0 k t193 0))) = some r := h
  clear h
  by_cases c2 : (a0.size : Int) > 32
  · rw [if_pos c2] at H
    have c2b0 : decide (32 < (a0.size : Int)) = true := decide_eq_true c2
    have c2b1 : decide (32 < a0.size) = true := decide_eq_true (by omega)
    clear c2
    obtain rfl := Option.some.inj H
    go_enter Try.func10, Try.ntmps10
    go_wp2
    go_ret
    exact ⟨by first | rfl | (simp [errW_none, errW_some] <;> rfl) | (simp [*, errW_none, errW_some] <;> rfl), by repeat (first | (with_reducible first | exact HB.out | apply below_alloc | apply pw_below_drewN | apply below_drew1) | exact HB.out)⟩
  · rw [if_neg c2] at H
    have c2b0 : decide (32 < (a0.size : Int)) = false := decide_eq_false c2
    have c2b1 : decide (32 < a0.size) = false := decide_eq_false (by omega)
    clear c2
    replace H := Option.bind_eq_some_iff.mp H
    obtain ⟨t193, A30, H⟩ := H
    replace H : (surmiseref08_Stream.l0 k t193 0) = some r := H
    have A3 := Aside0.mk A30
    clear A30
    have H' := Aside0.mk H
    clear H
    go_enter Try.func10, Try.ntmps10
    go_wp2_with (first | ((with_reducible refine gate_callee (f := 26) rfl ?_); refine goesL_ (some 9) rfl rfl Try.func26 (by kernel_rfl) rfl #[.string a0] rfl (by (try simp only [List.map_toArray, List.map_cons, List.map_nil]); first | done | rfl | (simp only [List.length_drop, List.length_take]; rfl)) ?_; (with_reducible refine (surmiseref08_Parts.calls k a0 t193 _ A3.out).mono ?_); rintro e w4 ⟨v194, rfl, ho0, hb⟩; refine ⟨_, rfl, ?_⟩; have n0_ := Aside0.mk (Kd.R_lower ho0 (below_size (by repeat (first | (with_reducible first | exact HB.out | apply below_alloc | apply pw_below_drewN | apply below_drew1) | exact HB.out)))); have n1_ := Aside0.mk (below_step (by repeat (first | (with_reducible first | exact HB.out | apply below_alloc | apply pw_below_drewN | apply below_drew1) | exact HB.out)) hb); clear HB; have HO195 := n0_; have HB := n1_; clear n0_ n1_; (try clear hb); (try clear hb2); (try clear hk); (try clear hi); (try clear ho0)))
    go_loopg [4] k (fun kq v4 w' => ∃ (x4_1 : Int), v4 = .int .i64 x4_1 ∧ Aside0 (surmiseref08_Stream.l0 kq t193 x4_1 = some r) ∧ Aside0 (kq ≤ k) ∧ Aside0 (Kd.R Kd.string 9 w' w.heap.size (fun _ => True) v194 t193) ∧ Aside0 (Below w.heap.size w w'))
    case atStart => exact ⟨(0), (by first | rfl | (simp; done) | (simp [*]; done)), H', ⟨Nat.le_refl _⟩, ⟨by (with_reducible repeat (first | apply Kd.R_alloc | apply Kd.R_drewN | apply Kd.R_drew)); exact HO195.out⟩, ⟨by repeat (first | (with_reducible first | exact HB.out | apply below_alloc | apply pw_below_drewN | apply below_drew1) | exact HB.out)⟩⟩
    case round =>
      clear H'
      try clear c1
      try clear c2
      try clear c2b0
      try clear c2b1
      try clear p2
      obtain ⟨x4_1, rfl, HA, HK1, HO_3, HB⟩ := hrel
      cases gk with
      | zero => exact absurd HA.out (by simp [surmiseref08_Stream.l0])
      | succ k1 =>
        have H := HA.out
        clear HA
        simp only [surmiseref08_Stream.l0] at H
        by_cases c5 : x4_1 < (t193.length : Int)
        · rw [if_pos c5] at H
          have c5b0 : decide (x4_1 < (t193.length : Int)) = true := decide_eq_true c5
          clear c5
          by_cases c6 : 0 ≤ x4_1
          · rw [if_pos c6] at H
            have c6b0 : decide (0 ≤ x4_1) = true := decide_eq_true c6
            clear c6
            replace H := Option.bind_eq_some_iff.mp H
            obtain ⟨t197, A70, H⟩ := H
            replace H : (if t197 = true then (surmiseref08_Stream.l0 k1 t193 (wrap64 (x4_1 + 1))) else (some false)) = some r := H
            have A7 := Aside0.mk A70
            clear A70
            by_cases c8 : t197 = true
            · subst c8
              have H1 : (surmiseref08_Stream.l0 k1 t193 (wrap64 (x4_1 + 1))) = some r := by rw [if_pos rfl] at H; exact H
              clear H
              have H := H1
              clear H1
              have H' := Aside0.mk H
              clear H
              obtain ⟨Ao9, co9, eo9⟩ := Kd.R_slice HO_3.out
              subst eo9
              have p196 : 0 ≤ (x4_1 : Int) := of_decide_eq_true (by first | (with_reducible assumption) | assumption)
              have q196 : x4_1 < (t193.length : Int) := of_decide_eq_true (by first | (with_reducible assumption) | assumption)
              obtain ⟨ad196, e196, hx196_0⟩ := Kd.at_string (Kd.R_reads' HO_3.out).2.2 x4_1 p196 q196
              cases e196
              replace p196 := eq_true p196
              replace q196 := eq_true q196
              go_wp2_with (first | ((with_reducible refine gate_callee (f := 27) rfl ?_); refine goesL_ (some 20) rfl rfl Try.func27 (by kernel_rfl) rfl #[.string (rdOf ByteArray.empty t193 x4_1)] rfl (by (try simp only [List.map_toArray, List.map_cons, List.map_nil]); first | done | rfl | (simp only [List.length_drop, List.length_take]; rfl)) ?_; (with_reducible refine (surmiseref08_Plain.calls k1 (rdOf ByteArray.empty t193 x4_1) true _ A7.out).mono ?_); rintro e w' ⟨rfl, ⟨nd, rfl⟩⟩; refine ⟨_, rfl, ?_⟩))
              go_roundg k1
              case measure => have := HK1.out; omega
              case rel => exact ⟨(wrap64 (x4_1 + 1)), (by first | rfl | (simp; done) | (simp [*]; done)), H', ⟨by have := HK1.out; omega⟩, ⟨by (with_reducible repeat (first | apply Kd.R_alloc | apply Kd.R_drewN | apply Kd.R_drew)); exact HO_3.out⟩, ⟨by repeat (first | (with_reducible first | exact HB.out | apply below_alloc | apply pw_below_drewN | apply below_drew1) | exact HB.out)⟩⟩
            · replace c8 := Bool.eq_false_iff.mpr c8
              subst c8
              have H1 : (some false) = some r := by rw [if_neg (show ¬ (false = true) by decide)] at H; exact H
              clear H
              have H := H1
              clear H1
              obtain rfl := Option.some.inj H
              obtain ⟨Ao10, co10, eo10⟩ := Kd.R_slice HO_3.out
              subst eo10
              have p196 : 0 ≤ (x4_1 : Int) := of_decide_eq_true (by first | (with_reducible assumption) | assumption)
              have q196 : x4_1 < (t193.length : Int) := of_decide_eq_true (by first | (with_reducible assumption) | assumption)
              obtain ⟨ad196, e196, hx196_0⟩ := Kd.at_string (Kd.R_reads' HO_3.out).2.2 x4_1 p196 q196
              cases e196
              replace p196 := eq_true p196
              replace q196 := eq_true q196
              go_wp2_with (first | ((with_reducible refine gate_callee (f := 27) rfl ?_); refine goesL_ (some 20) rfl rfl Try.func27 (by kernel_rfl) rfl #[.string (rdOf ByteArray.empty t193 x4_1)] rfl (by (try simp only [List.map_toArray, List.map_cons, List.map_nil]); first | done | rfl | (simp only [List.length_drop, List.length_take]; rfl)) ?_; (with_reducible refine (surmiseref08_Plain.calls k1 (rdOf ByteArray.empty t193 x4_1) false _ A7.out).mono ?_); rintro e w' ⟨rfl, ⟨nd, rfl⟩⟩; refine ⟨_, rfl, ?_⟩))
              go_ret
              exact ⟨by first | rfl | (simp [errW_none, errW_some] <;> rfl) | (simp [*, errW_none, errW_some] <;> rfl), by repeat (first | (with_reducible first | exact HB.out | apply below_alloc | apply pw_below_drewN | apply below_drew1) | exact HB.out)⟩
          · rw [if_neg c6] at H
            exact absurd H (by simp)
        · rw [if_neg c5] at H
          have c5b0 : decide (x4_1 < (t193.length : Int)) = false := decide_eq_false c5
          clear c5
          obtain rfl := Option.some.inj H
          obtain ⟨Ao11, co11, eo11⟩ := Kd.R_slice HO_3.out
          subst eo11
          go_wp2
          go_ret
          exact ⟨by first | rfl | (simp [errW_none, errW_some] <;> rfl) | (simp [*, errW_none, errW_some] <;> rfl), by repeat (first | (with_reducible first | exact HB.out | apply below_alloc | apply pw_below_drewN | apply below_drew1) | exact HB.out)⟩

end Go.Proofs.Ytlcgmlfiggkppaa.Q

/- Names and patterns: which texts are some, by the program and by the reference. -/
namespace Go.Proofs.Ytlcgmlfiggkppaa.Q
open Go.RowKit Go.Proofs.YtlcgmlfiggkppaaW.PrintWords Go.Proofs.YtlcgmlfiggkppaaW.PrintLast Go.Proofs.YtlcgmlfiggkppaaW.PrintMore
set_option linter.unusedVariables false
set_option linter.unusedSimpArgs false

def okB (c : Nat) : Bool := decide (97 ≤ c ∧ c ≤ 122 ∨ 48 ≤ c ∧ c ≤ 57 ∨ c = 45 ∨ c = 95)
def allOk (l : List Nat) : Bool := l.all okB
def plainB (s : ByteArray) : Bool := decide (0 < s.size) && allOk (bl s)
theorem plain_l0 (s : ByteArray) (hs : s.size ≤ 8796093022000) (d : Nat) : ∀ (k i : Nat), i + d = s.size → 3 * d + 3 ≤ k → pattern_plain.l0 k s (s.size : Int) (i : Int) = some (allOk ((bl s).drop i)) := by
  induction d with
  | zero =>
    intro k i hi hk
    obtain ⟨k, rfl⟩ : ∃ k', k = k' + 1 := ⟨k - 1, by omega⟩
    rw [pattern_plain.l0, if_neg (by omega), List.drop_eq_nil_of_le (by rw [bl_length]; omega)]
    rfl
  | succ d ih =>
    intro k i hi hk
    obtain ⟨k, rfl⟩ : ∃ k', k = k' + 3 := ⟨k - 3, by omega⟩
    have hb := bl_bt s i (by omega)
    have hi1 := ih (k + 1) (i + 1) (by omega) (by omega)
    have hi2 := ih k (i + 1) (by omega) (by omega)
    rw [pattern_plain.l0, if_pos (by omega), if_pos (by omega), if_pos (by omega), hb, bl_drop s i (by omega)]
    generalize (bl s)[i]'(by rw [bl_length]; omega) = c
    have ha : allOk (c :: (bl s).drop (i + 1)) = (okB c && allOk ((bl s).drop (i + 1))) := rfl
    have hok : okB c = decide (97 ≤ c ∧ c ≤ 122 ∨ 48 ≤ c ∧ c ≤ 57 ∨ c = 45 ∨ c = 95) := rfl
    have hj2 : ∀ b : Bool, pattern_plain.j2 (k + 1) s (c : Int) (s.size : Int) (i : Int) b = some ((b || decide (c = 45 ∨ c = 95)) && allOk ((bl s).drop (i + 1))) := by
      intro b
      rw [pattern_plain.j2, wrap_up (by omega) (by omega)]
      cases b with
      | true => rw [if_pos rfl]; exact hi2
      | false =>
        rw [if_neg (by decide)]
        by_cases h1 : c = 45
        · rw [if_pos (by omega), decide_eq_true (by omega : c = 45 ∨ c = 95)]; exact hi2
        · rw [if_neg (by omega)]
          by_cases h2 : c = 95
          · rw [if_pos (by omega), decide_eq_true (by omega : c = 45 ∨ c = 95)]; exact hi2
          · rw [if_neg (by omega), decide_eq_false (by omega : ¬ (c = 45 ∨ c = 95))]; rfl
    have hj1 : ∀ b : Bool, pattern_plain.j1 (k + 2) s (c : Int) (s.size : Int) (i : Int) b = some ((b || (decide (48 ≤ c ∧ c ≤ 57) || decide (c = 45 ∨ c = 95))) && allOk ((bl s).drop (i + 1))) := by
      intro b
      rw [pattern_plain.j1, wrap_up (by omega) (by omega)]
      cases b with
      | true => rw [if_pos rfl]; exact hi1
      | false =>
        rw [if_neg (by decide)]
        by_cases h1 : 48 ≤ c
        · rw [if_pos (by omega), hj2]
          by_cases h2 : c ≤ 57
          · rw [decide_eq_true (by omega : (c : Int) ≤ 57), decide_eq_true (by omega : 48 ≤ c ∧ c ≤ 57)]; rfl
          · rw [decide_eq_false (by omega : ¬ (c : Int) ≤ 57), decide_eq_false (by omega : ¬ (48 ≤ c ∧ c ≤ 57))]; rfl
        · rw [if_neg (by omega), hj2, decide_eq_false (by omega : ¬ (48 ≤ c ∧ c ≤ 57))]; rfl
    rw [ha, hok]
    by_cases h1 : 97 ≤ c
    · rw [if_pos (by omega), hj1]
      by_cases h2 : c ≤ 122
      · rw [decide_eq_true (by omega : (c : Int) ≤ 122), decide_eq_true (by omega : 97 ≤ c ∧ c ≤ 122 ∨ 48 ≤ c ∧ c ≤ 57 ∨ c = 45 ∨ c = 95)]; rfl
      · rw [decide_eq_false (by omega : ¬ (c : Int) ≤ 122), decide_eq_false (by omega : ¬ (97 ≤ c ∧ c ≤ 122 ∨ 48 ≤ c ∧ c ≤ 57 ∨ c = 45 ∨ c = 95)), decide_eq_false (by omega : ¬ (48 ≤ c ∧ c ≤ 57)), decide_eq_false (by omega : ¬ (c = 45 ∨ c = 95))]; rfl
    · rw [if_neg (by omega), hj1]
      have e : (false || (decide (48 ≤ c ∧ c ≤ 57) || decide (c = 45 ∨ c = 95))) = decide (97 ≤ c ∧ c ≤ 122 ∨ 48 ≤ c ∧ c ≤ 57 ∨ c = 45 ∨ c = 95) := by
        rw [Bool.false_or, ← Bool.decide_or]
        exact decide_eq_decide.mpr (by omega)
      rw [e]
theorem toList_nil (s : ByteArray) : s.toList = ([] : List UInt8) ↔ s.size = 0 := by
  have e : ([] : List UInt8) = (⟨#[]⟩ : ByteArray).toList := by rw [ByteArray.toList, ByteArray.toList.loop]; rfl
  rw [e, toList_iff]
  constructor
  · rintro rfl; rfl
  · intro h
    apply bl_inj
    have : (bl s).length = 0 := by rw [bl_length]; exact h
    rw [List.length_eq_zero_iff.mp this]
    rfl
theorem plain_some (s : ByteArray) (hs : s.size ≤ 8796093022000) (k : Nat) (hk : 3 * s.size + 3 ≤ k) : pattern_plain.f k s = some (plainB s) := by
  unfold pattern_plain.f plainB
  by_cases h : s.size = 0
  · rw [if_pos ((toList_nil s).mpr h), decide_eq_false (by omega)]; rfl
  · rw [if_neg (fun h' => h ((toList_nil s).mp h')), decide_eq_true (by omega)]
    have := plain_l0 s hs s.size k 0 (by omega) hk
    rw [List.drop_zero] at this
    rw [Bool.true_and]
    exact this
theorem refplain_l0 (s : ByteArray) (hs : s.size ≤ 8796093022000) (d : Nat) : ∀ (k i : Nat), i + d = s.size → d + 1 ≤ k → surmiseref08_Plain.l0 k s (i : Int) = some (decide (0 < s.size) && allOk ((bl s).drop i)) := by
  induction d with
  | zero =>
    intro k i hi hk
    obtain ⟨k, rfl⟩ : ∃ k', k = k' + 1 := ⟨k - 1, by omega⟩
    have e : decide ((s.size : Int) > 0) = decide (0 < s.size) := decide_eq_decide.mpr (by omega)
    have e2 : allOk [] = true := rfl
    rw [surmiseref08_Plain.l0, if_neg (by omega), List.drop_eq_nil_of_le (by rw [bl_length]; omega), e, e2, Bool.and_true]
  | succ d ih =>
    intro k i hi hk
    obtain ⟨k, rfl⟩ : ∃ k', k = k' + 1 := ⟨k - 1, by omega⟩
    have hb := bl_bt s i (by omega)
    have hi1 := ih k (i + 1) (by omega) (by omega)
    rw [surmiseref08_Plain.l0, if_pos (by omega), if_pos (by omega), hb, bl_drop s i (by omega), wrap_up (by omega) (by omega)]
    have e1 : (i : Int) + 1 = ((i + 1 : Nat) : Int) := by omega
    rw [e1, hi1]
    generalize (bl s)[i]'(by rw [bl_length]; omega) = c
    have ha : allOk (c :: (bl s).drop (i + 1)) = (okB c && allOk ((bl s).drop (i + 1))) := rfl
    have hok : okB c = decide (97 ≤ c ∧ c ≤ 122 ∨ 48 ≤ c ∧ c ≤ 57 ∨ c = 45 ∨ c = 95) := rfl
    rw [ha, hok, decide_eq_true (by omega : 0 < s.size)]
    by_cases hc : 97 ≤ c ∧ c ≤ 122 ∨ 48 ≤ c ∧ c ≤ 57 ∨ c = 45 ∨ c = 95
    · rw [decide_eq_true hc]
      simp only [Bool.true_and]
      (repeat' split) <;> first | rfl | omega
    · rw [decide_eq_false hc]
      simp only [Bool.true_and, Bool.false_and]
      (repeat' split) <;> first | rfl | omega
theorem refplain_some (s : ByteArray) (hs : s.size ≤ 8796093022000) (k : Nat) (hk : s.size + 1 ≤ k) : surmiseref08_Plain.f k s = some (plainB s) := by
  unfold surmiseref08_Plain.f plainB
  exact refplain_l0 s hs s.size k 0 (by omega) hk

/-! ## names -/
theorem rd_at (l : List ByteArray) (i : Nat) (h : i < l.length) : rdOf ByteArray.empty l (i : Int) = l[i] := by
  simp [rdOf, h]
theorem cuts_size (s : ByteArray) (d : Nat) : ∀ a, ∀ x ∈ cuts s d a, x.size ≤ s.size := by
  have hz : ∀ a b, (s.extract a b).size ≤ s.size := fun a b => by
    rw [← bl_length, bl_extract, List.length_drop, List.length_take, bl_length]
    omega
  induction d with
  | zero => intro a x hx; rw [cuts, List.mem_singleton] at hx; rw [hx]; exact hz _ _
  | succ d ih =>
    intro a x
    rw [cuts]
    split
    · intro hx
      rcases List.mem_cons.mp hx with rfl | hx
      · exact hz _ _
      · exact ih _ x hx
    · exact ih _ x
theorem parts_size (s : ByteArray) : ∀ x ∈ partsP s, x.size ≤ s.size := cuts_size s s.size 0
def streamL (l : List ByteArray) : Bool := l.all plainB && decide (l.length ≤ 4)
def streamB (s : ByteArray) : Bool := decide (s.size ≤ 32) && streamL (partsP s)
theorem all_stream_l0 (l : List ByteArray) (hl : l.length ≤ 1000000) (M : Nat) (hM : M ≤ 1000) (hz : ∀ x ∈ l, x.size ≤ M) (d : Nat) : ∀ (k i : Nat), i + d = l.length → d + 3 * M + 5 ≤ k → pattern_all_by_pattern_Stream_1.l0 k l l (l.length : Int) (i : Int) = some ((l.drop i).all plainB && decide (l.length ≤ 4)) := by
  induction d with
  | zero =>
    intro k i hi hk
    obtain ⟨k, rfl⟩ : ∃ k', k = k' + 1 := ⟨k - 1, by omega⟩
    have e : decide ((l.length : Int) ≤ 4) = decide (l.length ≤ 4) := decide_eq_decide.mpr (by omega)
    rw [pattern_all_by_pattern_Stream_1.l0, if_neg (by omega), List.drop_eq_nil_of_le (by omega), e]
    rfl
  | succ d ih =>
    intro k i hi hk
    obtain ⟨k, rfl⟩ : ∃ k', k = k' + 1 := ⟨k - 1, by omega⟩
    have hx : l[i].size ≤ M := hz _ (List.getElem_mem _)
    have hp : pattern_Stream_1.f k (i : Int) (l.length : Int) l[i] = some (plainB l[i]) := by
      unfold pattern_Stream_1.f
      rw [bind_of (plain_some l[i] (by omega) k (by omega))]
    rw [pattern_all_by_pattern_Stream_1.l0, if_pos (by omega), if_pos (by omega), if_pos (by omega), rd_at l i (by omega), bind_of hp, List.drop_eq_getElem_cons (by omega), List.all_cons, wrap_up (by omega) (by omega)]
    cases plainB l[i] with
    | true => rw [if_pos rfl, Bool.true_and]; exact ih k (i + 1) (by omega) (by omega)
    | false => rw [if_neg (by decide), Bool.false_and, Bool.false_and]
theorem stream_some (s : ByteArray) (k : Nat) (hk : 300 ≤ k) : pattern_Stream.f k s = some (streamB s) := by
  have h : pattern_all_by_pattern_Stream_1.f k s = some (streamB s) := by
    unfold pattern_all_by_pattern_Stream_1.f streamB streamL
    by_cases h : s.size ≤ 32
    · have := parts_len s
      rw [if_neg (by omega), bind_of (parts_some s (by omega) k (by omega)), decide_eq_true h, Bool.true_and]
      exact all_stream_l0 (partsP s) (by omega) 32 (by omega) (fun x hx => Nat.le_trans (parts_size s x hx) h) (partsP s).length k 0 (by omega) (by omega)
    · rw [if_pos (by omega), decide_eq_false h, Bool.false_and]
  unfold pattern_Stream.f
  rw [bind_of h]
theorem refstream_l0 (l : List ByteArray) (hl : l.length ≤ 1000000) (M : Nat) (hM : M ≤ 1000) (hz : ∀ x ∈ l, x.size ≤ M) (d : Nat) : ∀ (k i : Nat), i + d = l.length → d + M + 5 ≤ k → surmiseref08_Stream.l0 k l (i : Int) = some ((l.drop i).all plainB && decide (l.length ≤ 4)) := by
  induction d with
  | zero =>
    intro k i hi hk
    obtain ⟨k, rfl⟩ : ∃ k', k = k' + 1 := ⟨k - 1, by omega⟩
    have e : decide ((l.length : Int) ≤ 4) = decide (l.length ≤ 4) := decide_eq_decide.mpr (by omega)
    rw [surmiseref08_Stream.l0, if_neg (by omega), List.drop_eq_nil_of_le (by omega), e]
    rfl
  | succ d ih =>
    intro k i hi hk
    obtain ⟨k, rfl⟩ : ∃ k', k = k' + 1 := ⟨k - 1, by omega⟩
    have hx : l[i].size ≤ M := hz _ (List.getElem_mem _)
    rw [surmiseref08_Stream.l0, if_pos (by omega), if_pos (by omega), rd_at l i (by omega), bind_of (refplain_some l[i] (by omega) k (by omega)), List.drop_eq_getElem_cons (by omega), List.all_cons, wrap_up (by omega) (by omega)]
    cases plainB l[i] with
    | true => rw [if_pos rfl, Bool.true_and]; exact ih k (i + 1) (by omega) (by omega)
    | false => rw [if_neg (by decide), Bool.false_and, Bool.false_and]
theorem refstream_some (s : ByteArray) (k : Nat) (hk : 300 ≤ k) : surmiseref08_Stream.f k s = some (streamB s) := by
  unfold surmiseref08_Stream.f streamB streamL
  by_cases h : s.size ≤ 32
  · have := parts_len s
    rw [if_neg (by omega), bind_of (refparts_some s (by omega) k (by omega)), decide_eq_true h, Bool.true_and]
    exact refstream_l0 (partsP s) (by omega) 32 (by omega) (fun x hx => Nat.le_trans (parts_size s x hx) h) (partsP s).length k 0 (by omega) (by omega)
  · rw [if_pos (by omega), decide_eq_false h, Bool.false_and]

end Go.Proofs.Ytlcgmlfiggkppaa.Q
