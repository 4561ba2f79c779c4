/- Texts of this session laid together (merge.py): YtlcgmlfiggkppaaQf12, YtlcgmlfiggkppaaHNames, YtlcgmlfiggkppaaHPats, YtlcgmlfiggkppaaHMatch, YtlcgmlfiggkppaaHAgainst, YtlcgmlfiggkppaaHRules, YtlcgmlfiggkppaaQf33, YtlcgmlfiggkppaaQf14. -/
import Derived.Test.YtlcgmlfiggkppaaTPatternMeetsd
-- By px.py, a program of this session that drives the kit's printer: laid out of the translation; Lean checks it.
namespace Go.Proofs.Ytlcgmlfiggkppaa.Q
open Go.RowKit Go.Proofs.YtlcgmlfiggkppaaW.PrintWords Go.Proofs.YtlcgmlfiggkppaaW.PrintLast Go.Proofs.YtlcgmlfiggkppaaW.PrintMore
attribute [local go_sem] max2_int min2_int max_two min_two max_three min_three max_four min_four   -- for this text's walks alone
set_option linter.unusedVariables false
set_option linter.unusedSimpArgs false

/-! ### surmiseref08_Pattern: function 12 -/
def surmiseref08_Pattern.l0 : Nat → List ByteArray → Int → Option (Bool)
  | 0, _, _ => none
  | k + 1, x3, x4 => if x4 < (x3.length : Int) then (if 0 ≤ x4 then ((surmiseref08_Plain.f k (rdOf ByteArray.empty x3 x4)).bind fun t202 => (if t202 = true then (surmiseref08_Pattern.l0 k x3 (wrap64 (x4 + 1))) else (if (rdOf ByteArray.empty x3 x4).toList = ([42] : List UInt8) then (surmiseref08_Pattern.l0 k x3 (wrap64 (x4 + 1))) else (if (rdOf ByteArray.empty x3 x4).toList = ([42, 42] : List UInt8) then (if (wrap64 (x4 + 1)) < (x3.length : Int) then (some false) else (surmiseref08_Pattern.l0 k x3 (wrap64 (x4 + 1)))) else (some false))))) else (none)) else (some (decide ((x3.length : Int) ≤ 4)))
def surmiseref08_Pattern.f (k : Nat) (a0 : ByteArray) : Option (Bool) := if (a0.size : Int) > 32 then (some false) else ((surmiseref08_Parts.f k a0).bind fun t198 => (surmiseref08_Pattern.l0 k t198 0))
theorem surmiseref08_Pattern.mono_l : ∀ k, (∀ y0 y1, LeO (surmiseref08_Pattern.l0 k y0 y1) (surmiseref08_Pattern.l0 (k + 1) y0 y1))
  | 0 => fun _ _ r h => by simp [surmiseref08_Pattern.l0] at h
  | k + 1 => by
    have ih0 := surmiseref08_Pattern.mono_l k
    · intro y0 y1
      unfold surmiseref08_Pattern.l0
      repeat' first
      | (with_reducible exact ih0 _ _)
      | (with_reducible exact surmiseref08_Parts.mono _ _)
      | (with_reducible exact surmiseref08_Plain.mono _ _)
      | (with_reducible exact LeO.refl _)
      | (with_reducible exact LeO.none _)
      | (with_reducible refine LeO.ite ?_ ?_)
      | (with_reducible refine LeO.bind ?_ (fun _ => ?_))
      | exact ih0 _ _
      | exact surmiseref08_Parts.mono _ _
      | exact surmiseref08_Plain.mono _ _
      | exact LeO.none _
      | refine LeO.ite ?_ ?_
      | refine LeO.bind ?_ (fun _ => ?_)
theorem surmiseref08_Pattern.mono : ∀ a0 k, LeO (surmiseref08_Pattern.f k a0) (surmiseref08_Pattern.f (k + 1) a0) := by
  intro a0 k
  have ih0 := surmiseref08_Pattern.mono_l k
  unfold surmiseref08_Pattern.f
  repeat' first
      | (with_reducible exact ih0 _ _)
      | (with_reducible exact surmiseref08_Parts.mono _ _)
      | (with_reducible exact surmiseref08_Plain.mono _ _)
      | (with_reducible exact LeO.refl _)
      | (with_reducible exact LeO.none _)
      | (with_reducible refine LeO.ite ?_ ?_)
      | (with_reducible refine LeO.bind ?_ (fun _ => ?_))
      | exact ih0 _ _
      | exact surmiseref08_Parts.mono _ _
      | exact surmiseref08_Plain.mono _ _
      | exact LeO.none _
      | refine LeO.ite ?_ ?_
      | refine LeO.bind ?_ (fun _ => ?_)
set_option maxHeartbeats 8000000 in
set_option maxRecDepth 100000 in
theorem surmiseref08_Pattern.calls (k : Nat) (a0 : ByteArray) (r : Bool) (w : World) (h : surmiseref08_Pattern.f k a0 = some r) :
    Calls Try.prog 12 #[.string a0] w fun e w' => e = .returned (.bool r) ∧ Below w.heap.size w w' := by
  have HB := Aside0.mk (Below.refl w.heap.size w)
  have H : (if (a0.size : Int) > 32 then (some false) else ((surmiseref08_Parts.f k a0).bind fun t198 => (surmiseref08_Pattern.l0 k t198 0))) = some r := h
  clear h
  by_cases c2 : (a0.size : Int) > 32
  · rw [if_pos c2] at H
    have c2b0 : decide (32 < (a0.size : Int)) = true := decide_eq_true c2
    have c2b1 : decide (32 < a0.size) = true := decide_eq_true (by omega)
    clear c2
    obtain rfl := Option.some.inj H
    go_enter Try.func12, Try.ntmps12
    go_wp2
    go_ret
    exact ⟨by first | rfl | (simp [errW_none, errW_some] <;> rfl) | (simp [*, errW_none, errW_some] <;> rfl), by repeat (first | (with_reducible first | exact HB.out | apply below_alloc | apply pw_below_drewN | apply below_drew1) | exact HB.out)⟩
  · rw [if_neg c2] at H
    have c2b0 : decide (32 < (a0.size : Int)) = false := decide_eq_false c2
    have c2b1 : decide (32 < a0.size) = false := decide_eq_false (by omega)
    clear c2
    replace H := Option.bind_eq_some_iff.mp H
    obtain ⟨t198, A30, H⟩ := H
    replace H : (surmiseref08_Pattern.l0 k t198 0) = some r := H
    have A3 := Aside0.mk A30
    clear A30
    have H' := Aside0.mk H
    clear H
    go_enter Try.func12, Try.ntmps12
    go_wp2_with (first | ((with_reducible refine gate_callee (f := 26) rfl ?_); refine goesL_ (some 9) rfl rfl Try.func26 (by kernel_rfl) rfl #[.string a0] rfl (by (try simp only [List.map_toArray, List.map_cons, List.map_nil]); first | done | rfl | (simp only [List.length_drop, List.length_take]; rfl)) ?_; (with_reducible refine (surmiseref08_Parts.calls k a0 t198 _ A3.out).mono ?_); rintro e w4 ⟨v199, rfl, ho0, hb⟩; refine ⟨_, rfl, ?_⟩; have n0_ := Aside0.mk (Kd.R_lower ho0 (below_size (by repeat (first | (with_reducible first | exact HB.out | apply below_alloc | apply pw_below_drewN | apply below_drew1) | exact HB.out)))); have n1_ := Aside0.mk (below_step (by repeat (first | (with_reducible first | exact HB.out | apply below_alloc | apply pw_below_drewN | apply below_drew1) | exact HB.out)) hb); clear HB; have HO200 := n0_; have HB := n1_; clear n0_ n1_; (try clear hb); (try clear hb2); (try clear hk); (try clear hi); (try clear ho0)))
    go_loopg [4] k (fun kq v4 w' => ∃ (x4_1 : Int), v4 = .int .i64 x4_1 ∧ Aside0 (surmiseref08_Pattern.l0 kq t198 x4_1 = some r) ∧ Aside0 (kq ≤ k) ∧ Aside0 (Kd.R Kd.string 9 w' w.heap.size (fun _ => True) v199 t198) ∧ Aside0 (Below w.heap.size w w'))
    case atStart => exact ⟨(0), (by first | rfl | (simp; done) | (simp [*]; done)), H', ⟨Nat.le_refl _⟩, ⟨by (with_reducible repeat (first | apply Kd.R_alloc | apply Kd.R_drewN | apply Kd.R_drew)); exact HO200.out⟩, ⟨by repeat (first | (with_reducible first | exact HB.out | apply below_alloc | apply pw_below_drewN | apply below_drew1) | exact HB.out)⟩⟩
    case round =>
      clear H'
      try clear c1
      try clear c2
      try clear c2b0
      try clear c2b1
      try clear p2
      obtain ⟨x4_1, rfl, HA, HK1, HO_3, HB⟩ := hrel
      cases gk with
      | zero => exact absurd HA.out (by simp [surmiseref08_Pattern.l0])
      | succ k1 =>
        have H := HA.out
        clear HA
        simp only [surmiseref08_Pattern.l0] at H
        by_cases c5 : x4_1 < (t198.length : Int)
        · rw [if_pos c5] at H
          have c5b0 : decide (x4_1 < (t198.length : Int)) = true := decide_eq_true c5
          clear c5
          by_cases c6 : 0 ≤ x4_1
          · rw [if_pos c6] at H
            have c6b0 : decide (0 ≤ x4_1) = true := decide_eq_true c6
            clear c6
            replace H := Option.bind_eq_some_iff.mp H
            obtain ⟨t202, A70, H⟩ := H
            replace H : (if t202 = true then (surmiseref08_Pattern.l0 k1 t198 (wrap64 (x4_1 + 1))) else (if (rdOf ByteArray.empty t198 x4_1).toList = ([42] : List UInt8) then (surmiseref08_Pattern.l0 k1 t198 (wrap64 (x4_1 + 1))) else (if (rdOf ByteArray.empty t198 x4_1).toList = ([42, 42] : List UInt8) then (if (wrap64 (x4_1 + 1)) < (t198.length : Int) then (some false) else (surmiseref08_Pattern.l0 k1 t198 (wrap64 (x4_1 + 1)))) else (some false)))) = some r := H
            have A7 := Aside0.mk A70
            clear A70
            by_cases c8 : t202 = true
            · subst c8
              have H1 : (surmiseref08_Pattern.l0 k1 t198 (wrap64 (x4_1 + 1))) = some r := by rw [if_pos rfl] at H; exact H
              clear H
              have H := H1
              clear H1
              have H' := Aside0.mk H
              clear H
              obtain ⟨Ao9, co9, eo9⟩ := Kd.R_slice HO_3.out
              subst eo9
              have p201 : 0 ≤ (x4_1 : Int) := of_decide_eq_true (by first | (with_reducible assumption) | assumption)
              have q201 : x4_1 < (t198.length : Int) := of_decide_eq_true (by first | (with_reducible assumption) | assumption)
              obtain ⟨ad201, e201, hx201_0⟩ := Kd.at_string (Kd.R_reads' HO_3.out).2.2 x4_1 p201 q201
              cases e201
              replace p201 := eq_true p201
              replace q201 := eq_true q201
              go_wp2_with (first | ((with_reducible refine gate_callee (f := 27) rfl ?_); refine goesL_ (some 20) rfl rfl Try.func27 (by kernel_rfl) rfl #[.string (rdOf ByteArray.empty t198 x4_1)] rfl (by (try simp only [List.map_toArray, List.map_cons, List.map_nil]); first | done | rfl | (simp only [List.length_drop, List.length_take]; rfl)) ?_; (with_reducible refine (surmiseref08_Plain.calls k1 (rdOf ByteArray.empty t198 x4_1) true _ A7.out).mono ?_); rintro e w' ⟨rfl, ⟨nd, rfl⟩⟩; refine ⟨_, rfl, ?_⟩))
              go_roundg k1
              case measure => have := HK1.out; omega
              case rel => exact ⟨(wrap64 (x4_1 + 1)), (by first | rfl | (simp; done) | (simp [*]; done)), H', ⟨by have := HK1.out; omega⟩, ⟨by (with_reducible repeat (first | apply Kd.R_alloc | apply Kd.R_drewN | apply Kd.R_drew)); exact HO_3.out⟩, ⟨by repeat (first | (with_reducible first | exact HB.out | apply below_alloc | apply pw_below_drewN | apply below_drew1) | exact HB.out)⟩⟩
            · replace c8 := Bool.eq_false_iff.mpr c8
              subst c8
              have H1 : (if (rdOf ByteArray.empty t198 x4_1).toList = ([42] : List UInt8) then (surmiseref08_Pattern.l0 k1 t198 (wrap64 (x4_1 + 1))) else (if (rdOf ByteArray.empty t198 x4_1).toList = ([42, 42] : List UInt8) then (if (wrap64 (x4_1 + 1)) < (t198.length : Int) then (some false) else (surmiseref08_Pattern.l0 k1 t198 (wrap64 (x4_1 + 1)))) else (some false))) = some r := by rw [if_neg (show ¬ (false = true) by decide)] at H; exact H
              clear H
              have H := H1
              clear H1
              by_cases c10 : (rdOf ByteArray.empty t198 x4_1).toList = ([42] : List UInt8)
              · rw [if_pos c10] at H
                have c10b0 : ((rdOf ByteArray.empty t198 x4_1).toList == ([42] : List UInt8)) = true := beq_iff_eq.mpr c10
                have c10b1 : ((rdOf ByteArray.empty t198 x4_1).toList != ([42] : List UInt8)) = false := bne_eq_false_iff_eq.mpr c10
                clear c10
                have H' := Aside0.mk H
                clear H
                obtain ⟨Ao11, co11, eo11⟩ := Kd.R_slice HO_3.out
                subst eo11
                have p201 : 0 ≤ (x4_1 : Int) := of_decide_eq_true (by first | (with_reducible assumption) | assumption)
                have q201 : x4_1 < (t198.length : Int) := of_decide_eq_true (by first | (with_reducible assumption) | assumption)
                obtain ⟨ad201, e201, hx201_0⟩ := Kd.at_string (Kd.R_reads' HO_3.out).2.2 x4_1 p201 q201
                cases e201
                replace p201 := eq_true p201
                replace q201 := eq_true q201
                go_wp2_with (first | ((with_reducible refine gate_callee (f := 27) rfl ?_); refine goesL_ (some 20) rfl rfl Try.func27 (by kernel_rfl) rfl #[.string (rdOf ByteArray.empty t198 x4_1)] rfl (by (try simp only [List.map_toArray, List.map_cons, List.map_nil]); first | done | rfl | (simp only [List.length_drop, List.length_take]; rfl)) ?_; (with_reducible refine (surmiseref08_Plain.calls k1 (rdOf ByteArray.empty t198 x4_1) false _ A7.out).mono ?_); rintro e w' ⟨rfl, ⟨nd, rfl⟩⟩; refine ⟨_, rfl, ?_⟩; have p203 : 0 ≤ (x4_1 : Int) := of_decide_eq_true (by first | (with_reducible assumption) | assumption); have q203 : x4_1 < (t198.length : Int) := of_decide_eq_true (by first | (with_reducible assumption) | assumption); obtain ⟨ad203, e203, hx203_0⟩ := Kd.at_string (Kd.R_reads' HO_3.out).2.2 x4_1 p203 q203; obtain rfl : ad201 = ad203 := (by injection e203); replace p203 := eq_true p203; replace q203 := eq_true q203))
                go_roundg k1
                case measure => have := HK1.out; omega
                case rel => exact ⟨(wrap64 (x4_1 + 1)), (by first | rfl | (simp; done) | (simp [*]; done)), H', ⟨by have := HK1.out; omega⟩, ⟨by (with_reducible repeat (first | apply Kd.R_alloc | apply Kd.R_drewN | apply Kd.R_drew)); exact HO_3.out⟩, ⟨by repeat (first | (with_reducible first | exact HB.out | apply below_alloc | apply pw_below_drewN | apply below_drew1) | exact HB.out)⟩⟩
              · rw [if_neg c10] at H
                have c10b0 : ((rdOf ByteArray.empty t198 x4_1).toList == ([42] : List UInt8)) = false := beq_eq_false_iff_ne.mpr c10
                have c10b1 : ((rdOf ByteArray.empty t198 x4_1).toList != ([42] : List UInt8)) = true := bne_iff_ne.mpr c10
                by_cases c12 : (rdOf ByteArray.empty t198 x4_1).toList = ([42, 42] : List UInt8)
                · rw [if_pos c12] at H
                  have c12b0 : ((rdOf ByteArray.empty t198 x4_1).toList == ([42, 42] : List UInt8)) = true := beq_iff_eq.mpr c12
                  have c12b1 : ((rdOf ByteArray.empty t198 x4_1).toList != ([42, 42] : List UInt8)) = false := bne_eq_false_iff_eq.mpr c12
                  clear c12
                  by_cases c13 : (wrap64 (x4_1 + 1)) < (t198.length : Int)
                  · rw [if_pos c13] at H
                    have c13b0 : decide ((wrap64 (x4_1 + 1)) < (t198.length : Int)) = true := decide_eq_true c13
                    clear c13
                    obtain rfl := Option.some.inj H
                    obtain ⟨Ao14, co14, eo14⟩ := Kd.R_slice HO_3.out
                    subst eo14
                    have p201 : 0 ≤ (x4_1 : Int) := of_decide_eq_true (by first | (with_reducible assumption) | assumption)
                    have q201 : x4_1 < (t198.length : Int) := of_decide_eq_true (by first | (with_reducible assumption) | assumption)
                    obtain ⟨ad201, e201, hx201_0⟩ := Kd.at_string (Kd.R_reads' HO_3.out).2.2 x4_1 p201 q201
                    cases e201
                    replace p201 := eq_true p201
                    replace q201 := eq_true q201
                    go_wp2_with (first | ((with_reducible refine gate_callee (f := 27) rfl ?_); refine goesL_ (some 20) rfl rfl Try.func27 (by kernel_rfl) rfl #[.string (rdOf ByteArray.empty t198 x4_1)] rfl (by (try simp only [List.map_toArray, List.map_cons, List.map_nil]); first | done | rfl | (simp only [List.length_drop, List.length_take]; rfl)) ?_; (with_reducible refine (surmiseref08_Plain.calls k1 (rdOf ByteArray.empty t198 x4_1) false _ A7.out).mono ?_); rintro e w' ⟨rfl, ⟨nd, rfl⟩⟩; refine ⟨_, rfl, ?_⟩; have p203 : 0 ≤ (x4_1 : Int) := of_decide_eq_true (by first | (with_reducible assumption) | assumption); have q203 : x4_1 < (t198.length : Int) := of_decide_eq_true (by first | (with_reducible assumption) | assumption); obtain ⟨ad203, e203, hx203_0⟩ := Kd.at_string (Kd.R_reads' HO_3.out).2.2 x4_1 p203 q203; obtain rfl : ad201 = ad203 := (by injection e203); replace p203 := eq_true p203; replace q203 := eq_true q203; have p204 : 0 ≤ (x4_1 : Int) := of_decide_eq_true (by first | (with_reducible assumption) | assumption); have q204 : x4_1 < (t198.length : Int) := of_decide_eq_true (by first | (with_reducible assumption) | assumption); obtain ⟨ad204, e204, hx204_0⟩ := Kd.at_string (Kd.R_reads' HO_3.out).2.2 x4_1 p204 q204; obtain rfl : ad201 = ad204 := (by injection e204); replace p204 := eq_true p204; replace q204 := eq_true q204))
                    go_ret
                    exact ⟨by first | rfl | (simp [errW_none, errW_some] <;> rfl) | (simp [*, errW_none, errW_some] <;> rfl), by repeat (first | (with_reducible first | exact HB.out | apply below_alloc | apply pw_below_drewN | apply below_drew1) | exact HB.out)⟩
                  · rw [if_neg c13] at H
                    have c13b0 : decide ((wrap64 (x4_1 + 1)) < (t198.length : Int)) = false := decide_eq_false c13
                    clear c13
                    have H' := Aside0.mk H
                    clear H
                    obtain ⟨Ao15, co15, eo15⟩ := Kd.R_slice HO_3.out
                    subst eo15
                    have p201 : 0 ≤ (x4_1 : Int) := of_decide_eq_true (by first | (with_reducible assumption) | assumption)
                    have q201 : x4_1 < (t198.length : Int) := of_decide_eq_true (by first | (with_reducible assumption) | assumption)
                    obtain ⟨ad201, e201, hx201_0⟩ := Kd.at_string (Kd.R_reads' HO_3.out).2.2 x4_1 p201 q201
                    cases e201
                    replace p201 := eq_true p201
                    replace q201 := eq_true q201
                    go_wp2_with (first | ((with_reducible refine gate_callee (f := 27) rfl ?_); refine goesL_ (some 20) rfl rfl Try.func27 (by kernel_rfl) rfl #[.string (rdOf ByteArray.empty t198 x4_1)] rfl (by (try simp only [List.map_toArray, List.map_cons, List.map_nil]); first | done | rfl | (simp only [List.length_drop, List.length_take]; rfl)) ?_; (with_reducible refine (surmiseref08_Plain.calls k1 (rdOf ByteArray.empty t198 x4_1) false _ A7.out).mono ?_); rintro e w' ⟨rfl, ⟨nd, rfl⟩⟩; refine ⟨_, rfl, ?_⟩; have p203 : 0 ≤ (x4_1 : Int) := of_decide_eq_true (by first | (with_reducible assumption) | assumption); have q203 : x4_1 < (t198.length : Int) := of_decide_eq_true (by first | (with_reducible assumption) | assumption); obtain ⟨ad203, e203, hx203_0⟩ := Kd.at_string (Kd.R_reads' HO_3.out).2.2 x4_1 p203 q203; obtain rfl : ad201 = ad203 := (by injection e203); replace p203 := eq_true p203; replace q203 := eq_true q203; have p204 : 0 ≤ (x4_1 : Int) := of_decide_eq_true (by first | (with_reducible assumption) | assumption); have q204 : x4_1 < (t198.length : Int) := of_decide_eq_true (by first | (with_reducible assumption) | assumption); obtain ⟨ad204, e204, hx204_0⟩ := Kd.at_string (Kd.R_reads' HO_3.out).2.2 x4_1 p204 q204; obtain rfl : ad201 = ad204 := (by injection e204); replace p204 := eq_true p204; replace q204 := eq_true q204))
                    go_roundg k1
                    case measure => have := HK1.out; omega
                    case rel => exact ⟨(wrap64 (x4_1 + 1)), (by first | rfl | (simp; done) | (simp [*]; done)), H', ⟨by have := HK1.out; omega⟩, ⟨by (with_reducible repeat (first | apply Kd.R_alloc | apply Kd.R_drewN | apply Kd.R_drew)); exact HO_3.out⟩, ⟨by repeat (first | (with_reducible first | exact HB.out | apply below_alloc | apply pw_below_drewN | apply below_drew1) | exact HB.out)⟩⟩
                · rw [if_neg c12] at H
                  have c12b0 : ((rdOf ByteArray.empty t198 x4_1).toList == ([42, 42] : List UInt8)) = false := beq_eq_false_iff_ne.mpr c12
                  have c12b1 : ((rdOf ByteArray.empty t198 x4_1).toList != ([42, 42] : List UInt8)) = true := bne_iff_ne.mpr c12
                  obtain rfl := Option.some.inj H
                  obtain ⟨Ao16, co16, eo16⟩ := Kd.R_slice HO_3.out
                  subst eo16
                  have p201 : 0 ≤ (x4_1 : Int) := of_decide_eq_true (by first | (with_reducible assumption) | assumption)
                  have q201 : x4_1 < (t198.length : Int) := of_decide_eq_true (by first | (with_reducible assumption) | assumption)
                  obtain ⟨ad201, e201, hx201_0⟩ := Kd.at_string (Kd.R_reads' HO_3.out).2.2 x4_1 p201 q201
                  cases e201
                  replace p201 := eq_true p201
                  replace q201 := eq_true q201
                  go_wp2_with (first | ((with_reducible refine gate_callee (f := 27) rfl ?_); refine goesL_ (some 20) rfl rfl Try.func27 (by kernel_rfl) rfl #[.string (rdOf ByteArray.empty t198 x4_1)] rfl (by (try simp only [List.map_toArray, List.map_cons, List.map_nil]); first | done | rfl | (simp only [List.length_drop, List.length_take]; rfl)) ?_; (with_reducible refine (surmiseref08_Plain.calls k1 (rdOf ByteArray.empty t198 x4_1) false _ A7.out).mono ?_); rintro e w' ⟨rfl, ⟨nd, rfl⟩⟩; refine ⟨_, rfl, ?_⟩; have p203 : 0 ≤ (x4_1 : Int) := of_decide_eq_true (by first | (with_reducible assumption) | assumption); have q203 : x4_1 < (t198.length : Int) := of_decide_eq_true (by first | (with_reducible assumption) | assumption); obtain ⟨ad203, e203, hx203_0⟩ := Kd.at_string (Kd.R_reads' HO_3.out).2.2 x4_1 p203 q203; obtain rfl : ad201 = ad203 := (by injection e203); replace p203 := eq_true p203; replace q203 := eq_true q203; have p204 : 0 ≤ (x4_1 : Int) := of_decide_eq_true (by first | (with_reducible assumption) | assumption); have q204 : x4_1 < (t198.length : Int) := of_decide_eq_true (by first | (with_reducible assumption) | assumption); obtain ⟨ad204, e204, hx204_0⟩ := Kd.at_string (Kd.R_reads' HO_3.out).2.2 x4_1 p204 q204; obtain rfl : ad201 = ad204 := (by injection e204); replace p204 := eq_true p204; replace q204 := eq_true q204))
                  go_ret
                  exact ⟨by first | rfl | (simp [errW_none, errW_some] <;> rfl) | (simp [*, errW_none, errW_some] <;> rfl), by repeat (first | (with_reducible first | exact HB.out | apply below_alloc | apply pw_below_drewN | apply below_drew1) | exact HB.out)⟩
          · rw [if_neg c6] at H
            exact absurd H (by simp)
        · rw [if_neg c5] at H
          have c5b0 : decide (x4_1 < (t198.length : Int)) = false := decide_eq_false c5
          clear c5
          obtain rfl := Option.some.inj H
          obtain ⟨Ao17, co17, eo17⟩ := Kd.R_slice HO_3.out
          subst eo17
          go_wp2
          go_ret
          exact ⟨by first | rfl | (simp [errW_none, errW_some] <;> rfl) | (simp [*, errW_none, errW_some] <;> rfl), by repeat (first | (with_reducible first | exact HB.out | apply below_alloc | apply pw_below_drewN | apply below_drew1) | exact HB.out)⟩

end Go.Proofs.Ytlcgmlfiggkppaa.Q

/- Names and patterns: which texts are some, by the program and by the reference. -/
namespace Go.Proofs.Ytlcgmlfiggkppaa.Q
open Go.RowKit Go.Proofs.YtlcgmlfiggkppaaW.PrintWords Go.Proofs.YtlcgmlfiggkppaaW.PrintLast Go.Proofs.YtlcgmlfiggkppaaW.PrintMore
set_option linter.unusedVariables false
set_option linter.unusedSimpArgs false

def okB (c : Nat) : Bool := decide (97 ≤ c ∧ c ≤ 122 ∨ 48 ≤ c ∧ c ≤ 57 ∨ c = 45 ∨ c = 95)
def allOk (l : List Nat) : Bool := l.all okB
def plainB (s : ByteArray) : Bool := decide (0 < s.size) && allOk (bl s)
theorem plain_l0 (s : ByteArray) (hs : s.size ≤ 8796093022000) (d : Nat) : ∀ (k i : Nat), i + d = s.size → 3 * d + 3 ≤ k → pattern_plain.l0 k s (s.size : Int) (i : Int) = some (allOk ((bl s).drop i)) := by
  induction d with
  | zero =>
    intro k i hi hk
    obtain ⟨k, rfl⟩ : ∃ k', k = k' + 1 := ⟨k - 1, by omega⟩
    rw [pattern_plain.l0, if_neg (by omega), List.drop_eq_nil_of_le (by rw [bl_length]; omega)]
    rfl
  | succ d ih =>
    intro k i hi hk
    obtain ⟨k, rfl⟩ : ∃ k', k = k' + 3 := ⟨k - 3, by omega⟩
    have hb := bl_bt s i (by omega)
    have hi1 := ih (k + 1) (i + 1) (by omega) (by omega)
    have hi2 := ih k (i + 1) (by omega) (by omega)
    rw [pattern_plain.l0, if_pos (by omega), if_pos (by omega), if_pos (by omega), hb, bl_drop s i (by omega)]
    generalize (bl s)[i]'(by rw [bl_length]; omega) = c
    have ha : allOk (c :: (bl s).drop (i + 1)) = (okB c && allOk ((bl s).drop (i + 1))) := rfl
    have hok : okB c = decide (97 ≤ c ∧ c ≤ 122 ∨ 48 ≤ c ∧ c ≤ 57 ∨ c = 45 ∨ c = 95) := rfl
    have hj2 : ∀ b : Bool, pattern_plain.j2 (k + 1) s (c : Int) (s.size : Int) (i : Int) b = some ((b || decide (c = 45 ∨ c = 95)) && allOk ((bl s).drop (i + 1))) := by
      intro b
      rw [pattern_plain.j2, wrap_up (by omega) (by omega)]
      cases b with
      | true => rw [if_pos rfl]; exact hi2
      | false =>
        rw [if_neg (by decide)]
        by_cases h1 : c = 45
        · rw [if_pos (by omega), decide_eq_true (by omega : c = 45 ∨ c = 95)]; exact hi2
        · rw [if_neg (by omega)]
          by_cases h2 : c = 95
          · rw [if_pos (by omega), decide_eq_true (by omega : c = 45 ∨ c = 95)]; exact hi2
          · rw [if_neg (by omega), decide_eq_false (by omega : ¬ (c = 45 ∨ c = 95))]; rfl
    have hj1 : ∀ b : Bool, pattern_plain.j1 (k + 2) s (c : Int) (s.size : Int) (i : Int) b = some ((b || (decide (48 ≤ c ∧ c ≤ 57) || decide (c = 45 ∨ c = 95))) && allOk ((bl s).drop (i + 1))) := by
      intro b
      rw [pattern_plain.j1, wrap_up (by omega) (by omega)]
      cases b with
      | true => rw [if_pos rfl]; exact hi1
      | false =>
        rw [if_neg (by decide)]
        by_cases h1 : 48 ≤ c
        · rw [if_pos (by omega), hj2]
          by_cases h2 : c ≤ 57
          · rw [decide_eq_true (by omega : (c : Int) ≤ 57), decide_eq_true (by omega : 48 ≤ c ∧ c ≤ 57)]; rfl
          · rw [decide_eq_false (by omega : ¬ (c : Int) ≤ 57), decide_eq_false (by omega : ¬ (48 ≤ c ∧ c ≤ 57))]; rfl
        · rw [if_neg (by omega), hj2, decide_eq_false (by omega : ¬ (48 ≤ c ∧ c ≤ 57))]; rfl
    rw [ha, hok]
    by_cases h1 : 97 ≤ c
    · rw [if_pos (by omega), hj1]
      by_cases h2 : c ≤ 122
      · rw [decide_eq_true (by omega : (c : Int) ≤ 122), decide_eq_true (by omega : 97 ≤ c ∧ c ≤ 122 ∨ 48 ≤ c ∧ c ≤ 57 ∨ c = 45 ∨ c = 95)]; rfl
      · rw [decide_eq_false (by omega : ¬ (c : Int) ≤ 122), decide_eq_false (by omega : ¬ (97 ≤ c ∧ c ≤ 122 ∨ 48 ≤ c ∧ c ≤ 57 ∨ c = 45 ∨ c = 95)), decide_eq_false (by omega : ¬ (48 ≤ c ∧ c ≤ 57)), decide_eq_false (by omega : ¬ (c = 45 ∨ c = 95))]; rfl
    · rw [if_neg (by omega), hj1]
      have e : (false || (decide (48 ≤ c ∧ c ≤ 57) || decide (c = 45 ∨ c = 95))) = decide (97 ≤ c ∧ c ≤ 122 ∨ 48 ≤ c ∧ c ≤ 57 ∨ c = 45 ∨ c = 95) := by
        rw [Bool.false_or, ← Bool.decide_or]
        exact decide_eq_decide.mpr (by omega)
      rw [e]
theorem toList_nil (s : ByteArray) : s.toList = ([] : List UInt8) ↔ s.size = 0 := by
  have e : ([] : List UInt8) = (⟨#[]⟩ : ByteArray).toList := by rw [ByteArray.toList, ByteArray.toList.loop]; rfl
  rw [e, toList_iff]
  constructor
  · rintro rfl; rfl
  · intro h
    apply bl_inj
    have : (bl s).length = 0 := by rw [bl_length]; exact h
    rw [List.length_eq_zero_iff.mp this]
    rfl
theorem plain_some (s : ByteArray) (hs : s.size ≤ 8796093022000) (k : Nat) (hk : 3 * s.size + 3 ≤ k) : pattern_plain.f k s = some (plainB s) := by
  unfold pattern_plain.f plainB
  by_cases h : s.size = 0
  · rw [if_pos ((toList_nil s).mpr h), decide_eq_false (by omega)]; rfl
  · rw [if_neg (fun h' => h ((toList_nil s).mp h')), decide_eq_true (by omega)]
    have := plain_l0 s hs s.size k 0 (by omega) hk
    rw [List.drop_zero] at this
    rw [Bool.true_and]
    exact this
theorem refplain_l0 (s : ByteArray) (hs : s.size ≤ 8796093022000) (d : Nat) : ∀ (k i : Nat), i + d = s.size → d + 1 ≤ k → surmiseref08_Plain.l0 k s (i : Int) = some (decide (0 < s.size) && allOk ((bl s).drop i)) := by
  induction d with
  | zero =>
    intro k i hi hk
    obtain ⟨k, rfl⟩ : ∃ k', k = k' + 1 := ⟨k - 1, by omega⟩
    have e : decide ((s.size : Int) > 0) = decide (0 < s.size) := decide_eq_decide.mpr (by omega)
    have e2 : allOk [] = true := rfl
    rw [surmiseref08_Plain.l0, if_neg (by omega), List.drop_eq_nil_of_le (by rw [bl_length]; omega), e, e2, Bool.and_true]
  | succ d ih =>
    intro k i hi hk
    obtain ⟨k, rfl⟩ : ∃ k', k = k' + 1 := ⟨k - 1, by omega⟩
    have hb := bl_bt s i (by omega)
    have hi1 := ih k (i + 1) (by omega) (by omega)
    rw [surmiseref08_Plain.l0, if_pos (by omega), if_pos (by omega), hb, bl_drop s i (by omega), wrap_up (by omega) (by omega)]
    have e1 : (i : Int) + 1 = ((i + 1 : Nat) : Int) := by omega
    rw [e1, hi1]
    generalize (bl s)[i]'(by rw [bl_length]; omega) = c
    have ha : allOk (c :: (bl s).drop (i + 1)) = (okB c && allOk ((bl s).drop (i + 1))) := rfl
    have hok : okB c = decide (97 ≤ c ∧ c ≤ 122 ∨ 48 ≤ c ∧ c ≤ 57 ∨ c = 45 ∨ c = 95) := rfl
    rw [ha, hok, decide_eq_true (by omega : 0 < s.size)]
    by_cases hc : 97 ≤ c ∧ c ≤ 122 ∨ 48 ≤ c ∧ c ≤ 57 ∨ c = 45 ∨ c = 95
    · rw [decide_eq_true hc]
      simp only [Bool.true_and]
      (repeat' split) <;> first | rfl | omega
    · rw [decide_eq_false hc]
      simp only [Bool.true_and, Bool.false_and]
      (repeat' split) <;> first | rfl | omega
theorem refplain_some (s : ByteArray) (hs : s.size ≤ 8796093022000) (k : Nat) (hk : s.size + 1 ≤ k) : surmiseref08_Plain.f k s = some (plainB s) := by
  unfold surmiseref08_Plain.f plainB
  exact refplain_l0 s hs s.size k 0 (by omega) hk

/-! ## names -/
theorem rd_at (l : List ByteArray) (i : Nat) (h : i < l.length) : rdOf ByteArray.empty l (i : Int) = l[i] := by
  simp [rdOf, h]
theorem cuts_size (s : ByteArray) (d : Nat) : ∀ a, ∀ x ∈ cuts s d a, x.size ≤ s.size := by
  have hz : ∀ a b, (s.extract a b).size ≤ s.size := fun a b => by
    rw [← bl_length, bl_extract, List.length_drop, List.length_take, bl_length]
    omega
  induction d with
  | zero => intro a x hx; rw [cuts, List.mem_singleton] at hx; rw [hx]; exact hz _ _
  | succ d ih =>
    intro a x
    rw [cuts]
    split
    · intro hx
      rcases List.mem_cons.mp hx with rfl | hx
      · exact hz _ _
      · exact ih _ x hx
    · exact ih _ x
theorem parts_size (s : ByteArray) : ∀ x ∈ partsP s, x.size ≤ s.size := cuts_size s s.size 0
def streamL (l : List ByteArray) : Bool := l.all plainB && decide (l.length ≤ 4)
def streamB (s : ByteArray) : Bool := decide (s.size ≤ 32) && streamL (partsP s)
theorem all_stream_l0 (l : List ByteArray) (hl : l.length ≤ 1000000) (M : Nat) (hM : M ≤ 1000) (hz : ∀ x ∈ l, x.size ≤ M) (d : Nat) : ∀ (k i : Nat), i + d = l.length → d + 3 * M + 5 ≤ k → pattern_all_by_pattern_Stream_1.l0 k l l (l.length : Int) (i : Int) = some ((l.drop i).all plainB && decide (l.length ≤ 4)) := by
  induction d with
  | zero =>
    intro k i hi hk
    obtain ⟨k, rfl⟩ : ∃ k', k = k' + 1 := ⟨k - 1, by omega⟩
    have e : decide ((l.length : Int) ≤ 4) = decide (l.length ≤ 4) := decide_eq_decide.mpr (by omega)
    rw [pattern_all_by_pattern_Stream_1.l0, if_neg (by omega), List.drop_eq_nil_of_le (by omega), e]
    rfl
  | succ d ih =>
    intro k i hi hk
    obtain ⟨k, rfl⟩ : ∃ k', k = k' + 1 := ⟨k - 1, by omega⟩
    have hx : l[i].size ≤ M := hz _ (List.getElem_mem _)
    have hp : pattern_Stream_1.f k (i : Int) (l.length : Int) l[i] = some (plainB l[i]) := by
      unfold pattern_Stream_1.f
      rw [bind_of (plain_some l[i] (by omega) k (by omega))]
    rw [pattern_all_by_pattern_Stream_1.l0, if_pos (by omega), if_pos (by omega), if_pos (by omega), rd_at l i (by omega), bind_of hp, List.drop_eq_getElem_cons (by omega), List.all_cons, wrap_up (by omega) (by omega)]
    cases plainB l[i] with
    | true => rw [if_pos rfl, Bool.true_and]; exact ih k (i + 1) (by omega) (by omega)
    | false => rw [if_neg (by decide), Bool.false_and, Bool.false_and]
theorem stream_some (s : ByteArray) (k : Nat) (hk : 300 ≤ k) : pattern_Stream.f k s = some (streamB s) := by
  have h : pattern_all_by_pattern_Stream_1.f k s = some (streamB s) := by
    unfold pattern_all_by_pattern_Stream_1.f streamB streamL
    by_cases h : s.size ≤ 32
    · have := parts_len s
      rw [if_neg (by omega), bind_of (parts_some s (by omega) k (by omega)), decide_eq_true h, Bool.true_and]
      exact all_stream_l0 (partsP s) (by omega) 32 (by omega) (fun x hx => Nat.le_trans (parts_size s x hx) h) (partsP s).length k 0 (by omega) (by omega)
    · rw [if_pos (by omega), decide_eq_false h, Bool.false_and]
  unfold pattern_Stream.f
  rw [bind_of h]
theorem refstream_l0 (l : List ByteArray) (hl : l.length ≤ 1000000) (M : Nat) (hM : M ≤ 1000) (hz : ∀ x ∈ l, x.size ≤ M) (d : Nat) : ∀ (k i : Nat), i + d = l.length → d + M + 5 ≤ k → surmiseref08_Stream.l0 k l (i : Int) = some ((l.drop i).all plainB && decide (l.length ≤ 4)) := by
  induction d with
  | zero =>
    intro k i hi hk
    obtain ⟨k, rfl⟩ : ∃ k', k = k' + 1 := ⟨k - 1, by omega⟩
    have e : decide ((l.length : Int) ≤ 4) = decide (l.length ≤ 4) := decide_eq_decide.mpr (by omega)
    rw [surmiseref08_Stream.l0, if_neg (by omega), List.drop_eq_nil_of_le (by omega), e]
    rfl
  | succ d ih =>
    intro k i hi hk
    obtain ⟨k, rfl⟩ : ∃ k', k = k' + 1 := ⟨k - 1, by omega⟩
    have hx : l[i].size ≤ M := hz _ (List.getElem_mem _)
    rw [surmiseref08_Stream.l0, if_pos (by omega), if_pos (by omega), rd_at l i (by omega), bind_of (refplain_some l[i] (by omega) k (by omega)), List.drop_eq_getElem_cons (by omega), List.all_cons, wrap_up (by omega) (by omega)]
    cases plainB l[i] with
    | true => rw [if_pos rfl, Bool.true_and]; exact ih k (i + 1) (by omega) (by omega)
    | false => rw [if_neg (by decide), Bool.false_and, Bool.false_and]
theorem refstream_some (s : ByteArray) (k : Nat) (hk : 300 ≤ k) : surmiseref08_Stream.f k s = some (streamB s) := by
  unfold surmiseref08_Stream.f streamB streamL
  by_cases h : s.size ≤ 32
  · have := parts_len s
    rw [if_neg (by omega), bind_of (refparts_some s (by omega) k (by omega)), decide_eq_true h, Bool.true_and]
    exact refstream_l0 (partsP s) (by omega) 32 (by omega) (fun x hx => Nat.le_trans (parts_size s x hx) h) (partsP s).length k 0 (by omega) (by omega)
  · rw [if_pos (by omega), decide_eq_false h, Bool.false_and]

end Go.Proofs.Ytlcgmlfiggkppaa.Q

/- Patterns: which texts are some, by the program and by the reference. -/
namespace Go.Proofs.Ytlcgmlfiggkppaa.Q
open Go.RowKit Go.Proofs.YtlcgmlfiggkppaaW.PrintWords Go.Proofs.YtlcgmlfiggkppaaW.PrintLast Go.Proofs.YtlcgmlfiggkppaaW.PrintMore
set_option linter.unusedVariables false
set_option linter.unusedSimpArgs false

def star : ByteArray := ⟨#[42]⟩
def stars : ByteArray := ⟨#[42, 42]⟩
theorem star_list : star.toList = ([42] : List UInt8) := by decide +kernel
theorem stars_list : stars.toList = ([42, 42] : List UInt8) := by decide +kernel
theorem is_star (x : ByteArray) : x.toList = ([42] : List UInt8) ↔ x = star := by rw [← star_list, toList_iff]
theorem is_stars (x : ByteArray) : x.toList = ([42, 42] : List UInt8) ↔ x = stars := by rw [← stars_list, toList_iff]
instance : DecidableEq ByteArray := fun a b => decidable_of_iff (a.toList = b.toList) toList_iff
def patL : List ByteArray → Bool
  | [] => true
  | x :: l => (plainB x || decide (x = star) || decide (x = stars ∧ l = [])) && patL l
def patternB (s : ByteArray) : Bool := decide (s.size ≤ 32) && (patL (partsP s) && decide ((partsP s).length ≤ 4))
theorem all_pattern_l0 (l : List ByteArray) (hl : l.length ≤ 1000000) (M : Nat) (hM : M ≤ 1000) (hz : ∀ x ∈ l, x.size ≤ M) (d : Nat) : ∀ (k i : Nat), i + d = l.length → d + 3 * M + 5 ≤ k → pattern_all_by_pattern_Pattern_1.l0 k l l (l.length : Int) (i : Int) = some (patL (l.drop i) && decide (l.length ≤ 4)) := by
  induction d with
  | zero =>
    intro k i hi hk
    obtain ⟨k, rfl⟩ : ∃ k', k = k' + 1 := ⟨k - 1, by omega⟩
    have e : decide ((l.length : Int) ≤ 4) = decide (l.length ≤ 4) := decide_eq_decide.mpr (by omega)
    rw [pattern_all_by_pattern_Pattern_1.l0, if_neg (by omega), List.drop_eq_nil_of_le (by omega), e]
    rfl
  | succ d ih =>
    intro k i hi hk
    obtain ⟨k, rfl⟩ : ∃ k', k = k' + 1 := ⟨k - 1, by omega⟩
    have hx : l[i].size ≤ M := hz _ (List.getElem_mem _)
    have hn : l.drop (i + 1) = [] ↔ i + 1 = l.length := by
      rw [List.drop_eq_nil_iff]
      omega
    have hp : pattern_Pattern_1.f k (i : Int) (l.length : Int) l[i] = some (plainB l[i] || decide (l[i] = star) || decide (l[i] = stars ∧ l.drop (i + 1) = [])) := by
      unfold pattern_Pattern_1.f
      rw [bind_of (plain_some l[i] (by omega) k (by omega)), wrap_id (by omega) (by omega)]
      cases plainB l[i] with
      | true => rw [if_pos rfl, Bool.true_or, Bool.true_or]
      | false =>
        rw [if_neg (by decide), Bool.false_or]
        by_cases h1 : l[i] = star
        · rw [if_pos ((is_star _).mpr h1), decide_eq_true h1, Bool.true_or]
        · rw [if_neg (fun h => h1 ((is_star _).mp h)), decide_eq_false h1, Bool.false_or]
          by_cases h2 : l[i] = stars
          · rw [if_pos ((is_stars _).mpr h2)]
            have e : ((i : Int) == (l.length : Int) - 1) = decide (l[i] = stars ∧ l.drop (i + 1) = []) := by
              rw [Bool.eq_iff_iff, beq_iff_eq, decide_eq_true_eq, hn]
              constructor
              · intro h; exact ⟨h2, by omega⟩
              · intro h; omega
            rw [e]
          · rw [if_neg (fun h => h2 ((is_stars _).mp h)), decide_eq_false (fun h => h2 h.1)]
    rw [pattern_all_by_pattern_Pattern_1.l0, if_pos (by omega), if_pos (by omega), if_pos (by omega), rd_at l i (by omega), bind_of hp, (List.drop_eq_getElem_cons (by omega) : l.drop i = l[i] :: l.drop (i + 1)), patL, wrap_up (by omega) (by omega)]
    cases (plainB l[i] || decide (l[i] = star) || decide (l[i] = stars ∧ l.drop (i + 1) = [])) with
    | true => rw [if_pos rfl, Bool.true_and]; exact ih k (i + 1) (by omega) (by omega)
    | false => rw [if_neg (by decide), Bool.false_and, Bool.false_and]
theorem pattern_some (s : ByteArray) (k : Nat) (hk : 300 ≤ k) : pattern_Pattern.f k s = some (patternB s) := by
  have h : pattern_all_by_pattern_Pattern_1.f k s = some (patternB s) := by
    unfold pattern_all_by_pattern_Pattern_1.f patternB
    by_cases h : s.size ≤ 32
    · have := parts_len s
      rw [if_neg (by omega), bind_of (parts_some s (by omega) k (by omega)), decide_eq_true h, Bool.true_and]
      exact all_pattern_l0 (partsP s) (by omega) 32 (by omega) (fun x hx => Nat.le_trans (parts_size s x hx) h) (partsP s).length k 0 (by omega) (by omega)
    · rw [if_pos (by omega), decide_eq_false h, Bool.false_and]
  unfold pattern_Pattern.f
  rw [bind_of h]
theorem refpattern_l0 (l : List ByteArray) (hl : l.length ≤ 1000000) (M : Nat) (hM : M ≤ 1000) (hz : ∀ x ∈ l, x.size ≤ M) (d : Nat) : ∀ (k i : Nat), i + d = l.length → d + M + 5 ≤ k → surmiseref08_Pattern.l0 k l (i : Int) = some (patL (l.drop i) && decide (l.length ≤ 4)) := by
  induction d with
  | zero =>
    intro k i hi hk
    obtain ⟨k, rfl⟩ : ∃ k', k = k' + 1 := ⟨k - 1, by omega⟩
    have e : decide ((l.length : Int) ≤ 4) = decide (l.length ≤ 4) := decide_eq_decide.mpr (by omega)
    rw [surmiseref08_Pattern.l0, if_neg (by omega), List.drop_eq_nil_of_le (by omega), e]
    rfl
  | succ d ih =>
    intro k i hi hk
    obtain ⟨k, rfl⟩ : ∃ k', k = k' + 1 := ⟨k - 1, by omega⟩
    have hx : l[i].size ≤ M := hz _ (List.getElem_mem _)
    have hn : l.drop (i + 1) = [] ↔ i + 1 = l.length := by
      rw [List.drop_eq_nil_iff]
      omega
    have hi1 := ih k (i + 1) (by omega) (by omega)
    rw [surmiseref08_Pattern.l0, if_pos (by omega), if_pos (by omega), rd_at l i (by omega), bind_of (refplain_some l[i] (by omega) k (by omega)), List.drop_eq_getElem_cons (by omega), patL, wrap_up (by omega) (by omega)]
    have e1 : (i : Int) + 1 = ((i + 1 : Nat) : Int) := by omega
    rw [e1, hi1]
    cases plainB l[i] with
    | true => rw [if_pos rfl, Bool.true_or, Bool.true_or, Bool.true_and]
    | false =>
      rw [if_neg (by decide), Bool.false_or]
      by_cases h1 : l[i] = star
      · rw [if_pos ((is_star _).mpr h1), decide_eq_true h1, Bool.true_or, Bool.true_and]
      · rw [if_neg (fun h => h1 ((is_star _).mp h)), decide_eq_false h1, Bool.false_or]
        by_cases h2 : l[i] = stars
        · rw [if_pos ((is_stars _).mpr h2)]
          by_cases h3 : i + 1 < l.length
          · rw [if_pos (by omega), decide_eq_false (fun h => by have := hn.mp h.2; omega), Bool.false_and, Bool.false_and]
          · have hc : l[i] = stars ∧ l.drop (i + 1) = [] := ⟨h2, hn.mpr (by omega)⟩
            rw [if_neg (by omega), decide_eq_true hc, Bool.true_and]
        · rw [if_neg (fun h => h2 ((is_stars _).mp h)), decide_eq_false (fun h => h2 h.1), Bool.false_and, Bool.false_and]
theorem refpattern_some (s : ByteArray) (k : Nat) (hk : 300 ≤ k) : surmiseref08_Pattern.f k s = some (patternB s) := by
  unfold surmiseref08_Pattern.f patternB
  by_cases h : s.size ≤ 32
  · have := parts_len s
    rw [if_neg (by omega), bind_of (refparts_some s (by omega) k (by omega)), decide_eq_true h, Bool.true_and]
    exact refpattern_l0 (partsP s) (by omega) 32 (by omega) (fun x hx => Nat.le_trans (parts_size s x hx) h) (partsP s).length k 0 (by omega) (by omega)
  · rw [if_pos (by omega), decide_eq_false h, Bool.false_and]

end Go.Proofs.Ytlcgmlfiggkppaa.Q

/- A pattern opened; parts held against parts. -/
namespace Go.Proofs.Ytlcgmlfiggkppaa.Q
open Go.RowKit Go.Proofs.YtlcgmlfiggkppaaW.PrintWords Go.Proofs.YtlcgmlfiggkppaaW.PrintLast Go.Proofs.YtlcgmlfiggkppaaW.PrintMore
set_option linter.unusedVariables false
set_option linter.unusedSimpArgs false

/-- Parts but for the last one that stands for any number, and whether there is one. -/
def openL : List ByteArray → List ByteArray × Bool
  | [] => ([], false)
  | [x] => if x = stars then ([], true) else ([x], false)
  | x :: y :: l => (x :: (openL (y :: l)).1, (openL (y :: l)).2)
theorem openL_last (l : List ByteArray) (h : l ≠ []) : openL l = if l.getLast h = stars then (l.take (l.length - 1), true) else (l, false) := by
  induction l with
  | nil => exact absurd rfl h
  | cons x l ih =>
    cases l with
    | nil =>
      show (if x = stars then _ else _) = if x = stars then _ else _
      rfl
    | cons y l =>
      have hy : y :: l ≠ [] := List.cons_ne_nil _ _
      have e : (x :: y :: l).getLast h = (y :: l).getLast hy := List.getLast_cons hy
      rw [openL, ih hy, e]
      by_cases h2 : (y :: l).getLast hy = stars
      · rw [if_pos h2, if_pos h2]
        rfl
      · rw [if_neg h2, if_neg h2]
theorem open_some (s : ByteArray) (hs : s.size ≤ 8796093022000) (k : Nat) (hk : s.size + 1 ≤ k) : pattern_open.f k s = some (openL (partsP s)) := by
  have hl := parts_len s
  unfold pattern_open.f
  rw [bind_of (parts_some s hs k hk)]
  have hne : partsP s ≠ [] := fun h => by rw [h] at hl; simp at hl
  rw [openL_last _ hne]
  generalize partsP s = l at hl hne ⊢
  have e : wrap64 ((l.length : Int) - 1) = ((l.length - 1 : Nat) : Int) := by
    rw [wrap_id (by omega) (by omega)]
    omega
  rw [e, if_pos (by omega), if_pos (by omega), rd_at l (l.length - 1) (by omega), List.getLast_eq_getElem]
  by_cases h : l[l.length - 1] = stars
  · rw [if_pos ((is_stars _).mpr h), if_pos h, if_pos (by omega), Int.toNat_natCast]
  · rw [if_neg (fun h' => h ((is_stars _).mp h')), if_neg h]
/-- Parts held against as many others. -/
def agL (ok : ByteArray → ByteArray → Bool) : List ByteArray → List ByteArray → Bool
  | [], _ => true
  | _ :: _, [] => false
  | x :: a, y :: b => ok x y && agL ok a b
def okM (x y : ByteArray) : Bool := decide (x = star) || decide (x = y)

end Go.Proofs.Ytlcgmlfiggkppaa.Q

/- Parts held against parts, for the three tests. -/
namespace Go.Proofs.Ytlcgmlfiggkppaa.Q
open Go.RowKit Go.Proofs.YtlcgmlfiggkppaaW.PrintWords Go.Proofs.YtlcgmlfiggkppaaW.PrintLast Go.Proofs.YtlcgmlfiggkppaaW.PrintMore
set_option linter.unusedVariables false
set_option linter.unusedSimpArgs false

theorem agM_one (x y : ByteArray) : pattern_Match_1.f x y = some (okM x y) := by
  unfold pattern_Match_1.f okM
  by_cases h : x = star
  · rw [if_pos ((is_star _).mpr h), decide_eq_true h, Bool.true_or]
  · rw [if_neg (fun h' => h ((is_star _).mp h')), decide_eq_false h, Bool.false_or]
    have e : (x.toList == y.toList) = decide (x = y) := by rw [Bool.eq_iff_iff, beq_iff_eq, decide_eq_true_eq, toList_iff]
    rw [e]
theorem agM_l0 (a b : List ByteArray) (ha : a.length ≤ 1000000) (d : Nat) : ∀ (k i : Nat), i + d = a.length → i ≤ b.length → d + 1 ≤ k → pattern_against_by_pattern_Match_1.l0 k b a (a.length : Int) (i : Int) = some (agL okM (a.drop i) (b.drop i)) := by
  induction d with
  | zero =>
    intro k i hi hb hk
    obtain ⟨k, rfl⟩ : ∃ k', k = k' + 1 := ⟨k - 1, by omega⟩
    have e : a.drop i = [] := List.drop_eq_nil_of_le (by omega)
    rw [pattern_against_by_pattern_Match_1.l0, if_neg (by omega), e, agL]
  | succ d ih =>
    intro k i hi hb hk
    obtain ⟨k, rfl⟩ : ∃ k', k = k' + 1 := ⟨k - 1, by omega⟩
    have ea : a.drop i = a[i] :: a.drop (i + 1) := List.drop_eq_getElem_cons (by omega)
    rw [pattern_against_by_pattern_Match_1.l0, if_pos (by omega), if_pos (by omega), if_pos (by omega), ea]
    by_cases h : i < b.length
    · have eb : b.drop i = b[i] :: b.drop (i + 1) := List.drop_eq_getElem_cons (by omega)
      rw [if_neg (by omega), if_pos (by omega), rd_at a i (by omega), rd_at b i h, bind_of (agM_one a[i] b[i]), eb, agL, wrap_up (by omega) (by omega)]
      cases okM a[i] b[i] with
      | true => rw [if_pos rfl, Bool.true_and]; exact ih k (i + 1) (by omega) (by omega) (by omega)
      | false => rw [if_neg (by decide), Bool.false_and]
    · have eb : b.drop i = [] := List.drop_eq_nil_of_le (by omega)
      rw [if_pos (by omega), eb, agL]
theorem agM_some (a b : List ByteArray) (ha : a.length ≤ 1000000) (k : Nat) (hk : a.length + 1 ≤ k) : pattern_against_by_pattern_Match_1.f k a b = some (agL okM a b) := by
  have := agM_l0 a b ha a.length k 0 (by omega) (by omega) hk
  rw [List.drop_zero, List.drop_zero] at this
  exact this
theorem agC_one (x y : ByteArray) : pattern_Covers_1.f x y = some (okM x y) := by
  unfold pattern_Covers_1.f okM
  by_cases h : x = star
  · rw [if_pos ((is_star _).mpr h), decide_eq_true h, Bool.true_or]
  · rw [if_neg (fun h' => h ((is_star _).mp h')), decide_eq_false h, Bool.false_or]
    have e : (x.toList == y.toList) = decide (x = y) := by rw [Bool.eq_iff_iff, beq_iff_eq, decide_eq_true_eq, toList_iff]
    rw [e]
theorem agC_l0 (a b : List ByteArray) (ha : a.length ≤ 1000000) (d : Nat) : ∀ (k i : Nat), i + d = a.length → i ≤ b.length → d + 1 ≤ k → pattern_against_by_pattern_Covers_1.l0 k b a (a.length : Int) (i : Int) = some (agL okM (a.drop i) (b.drop i)) := by
  induction d with
  | zero =>
    intro k i hi hb hk
    obtain ⟨k, rfl⟩ : ∃ k', k = k' + 1 := ⟨k - 1, by omega⟩
    have e : a.drop i = [] := List.drop_eq_nil_of_le (by omega)
    rw [pattern_against_by_pattern_Covers_1.l0, if_neg (by omega), e, agL]
  | succ d ih =>
    intro k i hi hb hk
    obtain ⟨k, rfl⟩ : ∃ k', k = k' + 1 := ⟨k - 1, by omega⟩
    have ea : a.drop i = a[i] :: a.drop (i + 1) := List.drop_eq_getElem_cons (by omega)
    rw [pattern_against_by_pattern_Covers_1.l0, if_pos (by omega), if_pos (by omega), if_pos (by omega), ea]
    by_cases h : i < b.length
    · have eb : b.drop i = b[i] :: b.drop (i + 1) := List.drop_eq_getElem_cons (by omega)
      rw [if_neg (by omega), if_pos (by omega), rd_at a i (by omega), rd_at b i h, bind_of (agC_one a[i] b[i]), eb, agL, wrap_up (by omega) (by omega)]
      cases okM a[i] b[i] with
      | true => rw [if_pos rfl, Bool.true_and]; exact ih k (i + 1) (by omega) (by omega) (by omega)
      | false => rw [if_neg (by decide), Bool.false_and]
    · have eb : b.drop i = [] := List.drop_eq_nil_of_le (by omega)
      rw [if_pos (by omega), eb, agL]
theorem agC_some (a b : List ByteArray) (ha : a.length ≤ 1000000) (k : Nat) (hk : a.length + 1 ≤ k) : pattern_against_by_pattern_Covers_1.f k a b = some (agL okM a b) := by
  have := agC_l0 a b ha a.length k 0 (by omega) (by omega) hk
  rw [List.drop_zero, List.drop_zero] at this
  exact this
def okX (x y : ByteArray) : Bool := decide (x = star) || decide (y = star) || decide (x = y)
theorem agX_one (x y : ByteArray) : pattern_Meets_1.f x y = some (okX x y) := by
  unfold pattern_Meets_1.f okX
  by_cases h : x = star
  · rw [if_pos ((is_star _).mpr h), decide_eq_true h, Bool.true_or, Bool.true_or]
  · rw [if_neg (fun h' => h ((is_star _).mp h')), decide_eq_false h, Bool.false_or]
    by_cases h2 : y = star
    · rw [if_pos ((is_star _).mpr h2), decide_eq_true h2, Bool.true_or]
    · rw [if_neg (fun h' => h2 ((is_star _).mp h')), decide_eq_false h2, Bool.false_or]
      have e : (x.toList == y.toList) = decide (x = y) := by rw [Bool.eq_iff_iff, beq_iff_eq, decide_eq_true_eq, toList_iff]
      rw [e]
theorem agX_l0 (a b : List ByteArray) (ha : a.length ≤ 1000000) (d : Nat) : ∀ (k i : Nat), i + d = a.length → i ≤ b.length → d + 1 ≤ k → pattern_against_by_pattern_Meets_1.l0 k b a (a.length : Int) (i : Int) = some (agL okX (a.drop i) (b.drop i)) := by
  induction d with
  | zero =>
    intro k i hi hb hk
    obtain ⟨k, rfl⟩ : ∃ k', k = k' + 1 := ⟨k - 1, by omega⟩
    have e : a.drop i = [] := List.drop_eq_nil_of_le (by omega)
    rw [pattern_against_by_pattern_Meets_1.l0, if_neg (by omega), e, agL]
  | succ d ih =>
    intro k i hi hb hk
    obtain ⟨k, rfl⟩ : ∃ k', k = k' + 1 := ⟨k - 1, by omega⟩
    have ea : a.drop i = a[i] :: a.drop (i + 1) := List.drop_eq_getElem_cons (by omega)
    rw [pattern_against_by_pattern_Meets_1.l0, if_pos (by omega), if_pos (by omega), if_pos (by omega), ea]
    by_cases h : i < b.length
    · have eb : b.drop i = b[i] :: b.drop (i + 1) := List.drop_eq_getElem_cons (by omega)
      rw [if_neg (by omega), if_pos (by omega), rd_at a i (by omega), rd_at b i h, bind_of (agX_one a[i] b[i]), eb, agL, wrap_up (by omega) (by omega)]
      cases okX a[i] b[i] with
      | true => rw [if_pos rfl, Bool.true_and]; exact ih k (i + 1) (by omega) (by omega) (by omega)
      | false => rw [if_neg (by decide), Bool.false_and]
    · have eb : b.drop i = [] := List.drop_eq_nil_of_le (by omega)
      rw [if_pos (by omega), eb, agL]
theorem agX_some (a b : List ByteArray) (ha : a.length ≤ 1000000) (k : Nat) (hk : a.length + 1 ≤ k) : pattern_against_by_pattern_Meets_1.f k a b = some (agL okX a b) := by
  have := agX_l0 a b ha a.length k 0 (by omega) (by omega) hk
  rw [List.drop_zero, List.drop_zero] at this
  exact this

end Go.Proofs.Ytlcgmlfiggkppaa.Q

/- Match, Covers, Meets: what the program tells, in terms of parts. -/
namespace Go.Proofs.Ytlcgmlfiggkppaa.Q
open Go.RowKit Go.Proofs.YtlcgmlfiggkppaaW.PrintWords Go.Proofs.YtlcgmlfiggkppaaW.PrintLast Go.Proofs.YtlcgmlfiggkppaaW.PrintMore
set_option linter.unusedVariables false
set_option linter.unusedSimpArgs false

def matL (p s : List ByteArray) : Bool := agL okM (openL p).1 s && ((openL p).2 || decide ((openL p).1.length = s.length))
def covL (p q : List ByteArray) : Bool := agL okM (openL p).1 (openL q).1 && ((openL p).2 || (decide ((openL p).1.length = (openL q).1.length) && !(openL q).2))
def matchB (p s : ByteArray) : Bool := patternB p && streamB s && matL (partsP p) (partsP s)
def coversB (p q : ByteArray) : Bool := patternB p && patternB q && covL (partsP p) (partsP q)
theorem openL_len (l : List ByteArray) : (openL l).1.length ≤ l.length := by
  induction l with
  | nil => exact Nat.le_refl _
  | cons x l ih =>
    cases l with
    | nil => rw [openL]; split <;> simp
    | cons y l =>
      rw [openL, List.length_cons, List.length_cons]
      omega
theorem pat_size (s : ByteArray) (h : patternB s = true) : s.size ≤ 32 := by
  unfold patternB at h
  rw [Bool.and_eq_true, decide_eq_true_eq] at h
  exact h.1
theorem str_size (s : ByteArray) (h : streamB s = true) : s.size ≤ 32 := by
  unfold streamB at h
  rw [Bool.and_eq_true, decide_eq_true_eq] at h
  exact h.1
theorem len_dec (a b : Nat) : ((a : Int) == (b : Int)) = decide (a = b) := by
  rw [Bool.eq_iff_iff, beq_iff_eq, decide_eq_true_eq]
  omega
theorem match_some (p s : ByteArray) (k : Nat) (hk : 400 ≤ k) : pattern_Match.f k p s = some (matchB p s) := by
  obtain ⟨k, rfl⟩ : ∃ k', k = k' + 1 := ⟨k - 1, by omega⟩
  unfold pattern_Match.f matchB
  have hbad : pattern_Match.j0 (k + 1) p s true = some false := by rw [pattern_Match.j0, if_pos rfl]
  rw [bind_of (pattern_some p (k + 1) (by omega))]
  cases hp : patternB p with
  | false => rw [if_neg (by decide), hbad]; rfl
  | true =>
    rw [if_pos rfl, bind_of (stream_some s (k + 1) (by omega))]
    cases hs : streamB s with
    | false => exact hbad
    | true =>
      have h1 := pat_size p hp
      have h2 := str_size s hs
      have h3 := parts_len p
      have h4 := openL_len (partsP p)
      show pattern_Match.j0 (k + 1) p s false = some (matL (partsP p) (partsP s))
      rw [pattern_Match.j0, if_neg (by decide), bind_of (open_some p (by omega) k (by omega)), bind_of (parts_some s (by omega) k (by omega)), bind_of (agM_some _ _ (by omega) k (by omega))]
      unfold matL
      cases agL okM (openL (partsP p)).1 (partsP s) with
      | false => rfl
      | true =>
        rw [if_pos rfl, len_dec, Bool.true_and]
        cases (openL (partsP p)).2 <;> rfl
theorem covers_some (p q : ByteArray) (k : Nat) (hk : 400 ≤ k) : pattern_Covers.f k p q = some (coversB p q) := by
  obtain ⟨k, rfl⟩ : ∃ k', k = k' + 1 := ⟨k - 1, by omega⟩
  unfold pattern_Covers.f coversB
  have hbad : pattern_Covers.j0 (k + 1) p q true = some false := by rw [pattern_Covers.j0, if_pos rfl]
  rw [bind_of (pattern_some p (k + 1) (by omega))]
  cases hp : patternB p with
  | false => rw [if_neg (by decide), hbad]; rfl
  | true =>
    rw [if_pos rfl, bind_of (pattern_some q (k + 1) (by omega))]
    cases hq : patternB q with
    | false => exact hbad
    | true =>
      have h1 := pat_size p hp
      have h2 := pat_size q hq
      have h3 := parts_len p
      have h4 := openL_len (partsP p)
      show pattern_Covers.j0 (k + 1) p q false = some (covL (partsP p) (partsP q))
      rw [pattern_Covers.j0, if_neg (by decide), bind_of (open_some p (by omega) k (by omega)), bind_of (open_some q (by omega) k (by omega)), bind_of (agC_some _ _ (by omega) k (by omega))]
      unfold covL
      cases agL okM (openL (partsP p)).1 (openL (partsP q)).1 with
      | false => rfl
      | true =>
        rw [if_pos rfl, Bool.true_and]
        cases (openL (partsP p)).2 with
        | true => rfl
        | false =>
          rw [if_neg (by decide), Bool.false_or]
          by_cases h5 : (openL (partsP p)).1.length = (openL (partsP q)).1.length
          · rw [if_pos (by omega), decide_eq_true h5, Bool.true_and]
          · rw [if_neg (by omega), decide_eq_false h5, Bool.false_and]
def meeL (p q : List ByteArray) : Bool :=
  agL okX ((openL p).1.take (min (openL p).1.length (openL q).1.length)) ((openL q).1.take (min (openL p).1.length (openL q).1.length)) &&
  (decide ((openL p).1.length = (openL q).1.length) || (decide ((openL p).1.length < (openL q).1.length) && (openL p).2) || (decide ((openL q).1.length < (openL p).1.length) && (openL q).2))
def meetsB (p q : ByteArray) : Bool := patternB p && patternB q && meeL (partsP p) (partsP q)
theorem mn_min (a b : Nat) : mn (a : Int) (b : Int) = ((min a b : Nat) : Int) := by
  unfold mn
  split <;> omega
theorem meets_some (p q : ByteArray) (k : Nat) (hk : 400 ≤ k) : pattern_Meets.f k p q = some (meetsB p q) := by
  obtain ⟨k, rfl⟩ : ∃ k', k = k' + 1 := ⟨k - 1, by omega⟩
  unfold pattern_Meets.f meetsB
  have hbad : pattern_Meets.j0 (k + 1) p q true = some false := by rw [pattern_Meets.j0, if_pos rfl]
  rw [bind_of (pattern_some p (k + 1) (by omega))]
  cases hp : patternB p with
  | false => rw [if_neg (by decide), hbad]; rfl
  | true =>
    rw [if_pos rfl, bind_of (pattern_some q (k + 1) (by omega))]
    cases hq : patternB q with
    | false => exact hbad
    | true =>
      have h1 := pat_size p hp
      have h2 := pat_size q hq
      have h3 := parts_len p
      have h4 := openL_len (partsP p)
      show pattern_Meets.j0 (k + 1) p q false = some (meeL (partsP p) (partsP q))
      rw [pattern_Meets.j0, if_neg (by decide), bind_of (open_some p (by omega) k (by omega)), bind_of (open_some q (by omega) k (by omega))]
      unfold meeL
      generalize openL (partsP p) = a at h4 ⊢
      generalize openL (partsP q) = b
      rw [mn_min, if_pos (by omega), if_pos (by omega), if_pos (by omega), Int.toNat_natCast]
      have hl : (a.1.take (min a.1.length b.1.length)).length ≤ a.1.length := by rw [List.length_take]; omega
      rw [bind_of (agX_some _ _ (by omega) k (by omega))]
      cases agL okX (a.1.take (min a.1.length b.1.length)) (b.1.take (min a.1.length b.1.length)) with
      | false => rfl
      | true =>
        rw [if_pos rfl, Bool.true_and]
        by_cases h5 : a.1.length = b.1.length
        · rw [if_pos (by omega), decide_eq_true h5]; rfl
        · rw [if_neg (by omega), decide_eq_false h5, Bool.false_or]
          by_cases h6 : a.1.length < b.1.length
          · rw [if_pos (by omega), decide_eq_true h6, decide_eq_false (by omega : ¬ b.1.length < a.1.length)]
            cases a.2 with
            | true => rfl
            | false => rw [if_neg (by decide), if_neg (by omega)]; rfl
          · rw [if_neg (by omega), if_pos (by omega), decide_eq_false h6, decide_eq_true (by omega : b.1.length < a.1.length)]
            rfl

end Go.Proofs.Ytlcgmlfiggkppaa.Q

-- By px.py, a program of this session that drives the kit's printer: laid out of the translation; Lean checks it.
namespace Go.Proofs.Ytlcgmlfiggkppaa.Q
open Go.RowKit Go.Proofs.YtlcgmlfiggkppaaW.PrintWords Go.Proofs.YtlcgmlfiggkppaaW.PrintLast Go.Proofs.YtlcgmlfiggkppaaW.PrintMore
attribute [local go_sem] max2_int min2_int max_two min_two max_three min_three max_four min_four   -- for this text's walks alone
set_option linter.unusedVariables false
set_option linter.unusedSimpArgs false

/-! ### surmiseref08_match: function 33 -/
mutual
def surmiseref08_match.j0 : Nat → List ByteArray → List ByteArray → Bool → Option (Bool)
  | 0, _, _, _ => none
  | k + 1, x0, x1, x12 => if x12 = true then (if (x0.length : Int) = 0 then (if (x1.length : Int) = 0 then (some true) else (if (x0.length : Int) = 1 then (if 0 < (x0.length : Int) then (some ((rdOf ByteArray.empty x0 0).toList == ([42, 42] : List UInt8))) else (none)) else (some false))) else (if (x0.length : Int) = 1 then (if 0 < (x0.length : Int) then (some ((rdOf ByteArray.empty x0 0).toList == ([42, 42] : List UInt8))) else (none)) else (some false))) else (if 0 < (x0.length : Int) then (if (rdOf ByteArray.empty x0 0).toList = ([42, 42] : List UInt8) then (some true) else (if (rdOf ByteArray.empty x0 0).toList = ([42] : List UInt8) then (if 1 ≤ (x0.length : Int) then (if 1 ≤ (x1.length : Int) then ((surmiseref08_match.f k (x0.drop 1) (x1.drop 1)).bind fun t211 => (some t211)) else (none)) else (none)) else (if 0 < (x1.length : Int) then (if (rdOf ByteArray.empty x0 0).toList = (rdOf ByteArray.empty x1 0).toList then (if 1 ≤ (x0.length : Int) then (if 1 ≤ (x1.length : Int) then ((surmiseref08_match.f k (x0.drop 1) (x1.drop 1)).bind fun t216 => (some t216)) else (none)) else (none)) else (some false)) else (none)))) else (none))
def surmiseref08_match.f : Nat → List ByteArray → List ByteArray → Option (Bool)
  | 0, _, _ => none
  | k + 1, l0, l1 => if (l0.length : Int) = 0 then (surmiseref08_match.j0 k l0 l1 true) else (surmiseref08_match.j0 k l0 l1 ((l1.length : Int) == 0))
end
theorem surmiseref08_match.mono_l : ∀ k, (∀ y0 y1, LeO (surmiseref08_match.f k y0 y1) (surmiseref08_match.f (k + 1) y0 y1)) ∧ (∀ y0 y1 y2, LeO (surmiseref08_match.j0 k y0 y1 y2) (surmiseref08_match.j0 (k + 1) y0 y1 y2))
  | 0 => ⟨fun _ _ r h => by simp [surmiseref08_match.f] at h, fun _ _ _ r h => by simp [surmiseref08_match.j0] at h⟩
  | k + 1 => by
    obtain ⟨ih0, ih1⟩ := surmiseref08_match.mono_l k
    refine ⟨?_, ?_⟩
    · intro y0 y1
      unfold surmiseref08_match.f
      repeat' first
      | (with_reducible exact ih0 _ _)
      | (with_reducible exact ih1 _ _ _)
      | (with_reducible exact LeO.refl _)
      | (with_reducible exact LeO.none _)
      | (with_reducible refine LeO.ite ?_ ?_)
      | (with_reducible refine LeO.bind ?_ (fun _ => ?_))
      | exact ih0 _ _
      | exact ih1 _ _ _
      | exact LeO.none _
      | refine LeO.ite ?_ ?_
      | refine LeO.bind ?_ (fun _ => ?_)
    · intro y0 y1 y2
      unfold surmiseref08_match.j0
      repeat' first
      | (with_reducible exact ih0 _ _)
      | (with_reducible exact ih1 _ _ _)
      | (with_reducible exact LeO.refl _)
      | (with_reducible exact LeO.none _)
      | (with_reducible refine LeO.ite ?_ ?_)
      | (with_reducible refine LeO.bind ?_ (fun _ => ?_))
      | exact ih0 _ _
      | exact ih1 _ _ _
      | exact LeO.none _
      | refine LeO.ite ?_ ?_
      | refine LeO.bind ?_ (fun _ => ?_)
theorem surmiseref08_match.mono : ∀ a0 a1 k, LeO (surmiseref08_match.f k a0 a1) (surmiseref08_match.f (k + 1) a0 a1) := by
  intro a0 a1 k
  obtain ⟨ih0, ih1⟩ := surmiseref08_match.mono_l k
  exact ih0 a0 a1
def surmiseref08_match.T5 : Bool × List (List Nat × List Nat) := (true, [([], []), ([0], [0]), ([1], [1]), ([2], [2]), ([3], [3]), ([4], [4]), ([5, 4], [4, 5]), ([6, 4], [4, 6]), ([4], [4]), ([8, 4], [4, 8]), ([9, 4], [4, 9]), ([7, 10, 4], [4, 7, 10]), ([4, 11], [4, 11]), ([12, 4], [12]), ([13], [13]), ([14, 13], [13, 14]), ([13], [13]), ([16, 13], [13, 16]), ([15, 17, 13, 13], [13, 15, 17]), ([13, 18], [13, 18]), ([19, 18, 0, 1, 2, 3, 4, 5, 6, 7, 8, 9, 10, 11, 12, 13, 14, 15, 16, 17, 18, 19], [19])])
def surmiseref08_match.B5 : List Nat := [0, 1, 3, 7, 15, 31, 63, 127, 31, 287, 799, 2047, 4095, 8191, 16383, 32767, 16383, 81919, 262143, 524287, 1048575]
theorem surmiseref08_match.tab5 : rtab .any (opsOf Try.f33 5) = surmiseref08_match.T5 := by kernel_rfl
theorem surmiseref08_match.bits5 : waitsOk surmiseref08_match.T5.2 surmiseref08_match.B5 = true := by kernel_rfl
set_option maxHeartbeats 8000000 in
set_option maxRecDepth 100000 in
theorem surmiseref08_match.calls (k : Nat) : ∀ (A0 : Option Addr) (c0 : Nat) (l0 : List ByteArray) (A1 : Option Addr) (c1 : Nat) (l1 : List ByteArray) (r : Bool) (w : World) (hr0 : Kd.C Kd.string w A0 l0.length l0) (hc0 : l0.length ≤ c0) (hr1 : Kd.C Kd.string w A1 l1.length l1) (hc1 : l1.length ≤ c1) (h : surmiseref08_match.f k l0 l1 = some r),
    Calls Try.prog 33 #[.slice A0 l0.length c0, .slice A1 l1.length c1] w fun e w' => e = .returned (.bool r) ∧ Below w.heap.size w w' := by
  induction k using Nat.strongRecOn with
  | _ k ih =>
  intro A0 c0 l0 A1 c1 l1 r w hr0 hc0 hr1 hc1 h
  cases k with
  | zero => exact absurd h (by simp [surmiseref08_match.f])
  | succ k =>
  simp only [surmiseref08_match.f] at h
  have HR0 := Aside0.mk hr0
  have HC0 := Aside0.mk hc0
  clear hr0 hc0
  have HR1 := Aside0.mk hr1
  have HC1 := Aside0.mk hc1
  clear hr1 hc1
  have HB := Aside0.mk (Below.refl w.heap.size w)
  have H : (if (l0.length : Int) = 0 then (surmiseref08_match.j0 k l0 l1 true) else (surmiseref08_match.j0 k l0 l1 ((l1.length : Int) == 0))) = some r := h
  clear h
  have HC3 := Aside0.mk H
  clear H
  go_enter Try.func33, Try.ntmps33
  go_upto_region 1 with (fail)
  go_cut [12] (fun v12 wc => ∃ (kq : Nat) (x12_2 : Bool), v12 = .bool x12_2 ∧ Aside0 (surmiseref08_match.j0 kq l0 l1 x12_2 = some r) ∧ Aside0 (kq ≤ k) ∧ Aside0 (Below w.heap.size w wc))
  case first =>
    have H := HC3.out
    clear HC3
    by_cases c4 : (l0.length : Int) = 0
    · rw [if_pos c4] at H
      have c4b0 : ((l0.length : Int) == 0) = true := beq_iff_eq.mpr c4
      have c4b1 : ((l0.length : Int) != 0) = false := bne_eq_false_iff_eq.mpr c4
      clear c4
      (first | rw [c4b0] | (simp only [i64_w, i32_w]; rw [c4b0]) | skip)
      have H' := Aside0.mk H
      clear H
      go_wp2
      go_meet
      case rel => exact ⟨_, (true), (by first | rfl | (simp; done) | (simp [*]; done)), H', ⟨by first | omega | exact Nat.le_refl _⟩, ⟨by repeat (first | (with_reducible first | exact HB.out | apply below_alloc | apply pw_below_drewN | apply below_drew1) | exact HB.out)⟩⟩
    · rw [if_neg c4] at H
      have c4b0 : ((l0.length : Int) == 0) = false := beq_eq_false_iff_ne.mpr c4
      have c4b1 : ((l0.length : Int) != 0) = true := bne_iff_ne.mpr c4
      have c4b2 : ¬ (l0 = []) := fun h_ => c4 (by rw [h_]; rfl)
      (first | rw [c4b0] | (simp only [i64_w, i32_w]; rw [c4b0]) | skip)
      have H' := Aside0.mk H
      clear H
      go_wp2
      go_meet
      case rel => exact ⟨_, (((l1.length : Int) == 0)), (by first | rfl | (simp; done) | (simp [*]; done)), H', ⟨by first | omega | exact Nat.le_refl _⟩, ⟨by repeat (first | (with_reducible first | exact HB.out | apply below_alloc | apply pw_below_drewN | apply below_drew1) | exact HB.out)⟩⟩
  case rest =>
    clear HC3
    try clear c1
    try clear p2
    try clear c3
    try clear c4
    try clear c4b0
    try clear c4b1
    try clear c4b2
    obtain ⟨kq, x12_2, rfl, HA, HJ2, HB⟩ := hcut
    cases kq with
    | zero => exact absurd HA.out (by simp [surmiseref08_match.j0])
    | succ kj2 =>
      have H := HA.out
      clear HA
      simp only [surmiseref08_match.j0] at H
      by_cases c5 : x12_2 = true
      · subst c5
        have H1 : (if (l0.length : Int) = 0 then (if (l1.length : Int) = 0 then (some true) else (if (l0.length : Int) = 1 then (if 0 < (l0.length : Int) then (some ((rdOf ByteArray.empty l0 0).toList == ([42, 42] : List UInt8))) else (none)) else (some false))) else (if (l0.length : Int) = 1 then (if 0 < (l0.length : Int) then (some ((rdOf ByteArray.empty l0 0).toList == ([42, 42] : List UInt8))) else (none)) else (some false))) = some r := by rw [if_pos rfl] at H; exact H
        clear H
        have H := H1
        clear H1
        by_cases c6 : (l0.length : Int) = 0
        · rw [if_pos c6] at H
          have c6b0 : ((l0.length : Int) == 0) = true := beq_iff_eq.mpr c6
          have c6b1 : ((l0.length : Int) != 0) = false := bne_eq_false_iff_eq.mpr c6
          clear c6
          by_cases c7 : (l1.length : Int) = 0
          · rw [if_pos c7] at H
            have c7b0 : ((l1.length : Int) == 0) = true := beq_iff_eq.mpr c7
            have c7b1 : ((l1.length : Int) != 0) = false := bne_eq_false_iff_eq.mpr c7
            clear c7
            obtain rfl := Option.some.inj H
            go_wp2
            go_ret
            exact ⟨by first | rfl | (simp [errW_none, errW_some] <;> rfl) | (simp [*, errW_none, errW_some] <;> rfl), by repeat (first | (with_reducible first | exact HB.out | apply below_alloc | apply pw_below_drewN | apply below_drew1) | exact HB.out)⟩
          · rw [if_neg c7] at H
            have c7b0 : ((l1.length : Int) == 0) = false := beq_eq_false_iff_ne.mpr c7
            have c7b1 : ((l1.length : Int) != 0) = true := bne_iff_ne.mpr c7
            have c7b2 : ¬ (l1 = []) := fun h_ => c7 (by rw [h_]; rfl)
            by_cases c8 : (l0.length : Int) = 1
            · rw [if_pos c8] at H
              have c8b0 : ((l0.length : Int) == 1) = true := beq_iff_eq.mpr c8
              have c8b1 : ((l0.length : Int) != 1) = false := bne_eq_false_iff_eq.mpr c8
              clear c8
              by_cases c9 : 0 < (l0.length : Int)
              · rw [if_pos c9] at H
                have c9b0 : decide (0 < (l0.length : Int)) = true := decide_eq_true c9
                have c9b1 : decide (0 < l0.length) = true := decide_eq_true (by omega)
                clear c9
                obtain rfl := Option.some.inj H
                have p205 : 0 ≤ (0 : Int) := (by omega)
                have q205 : 0 < (l0.length : Int) := of_decide_eq_true (by first | (with_reducible assumption) | assumption)
                obtain ⟨ad205, e205, hx205_0⟩ := Kd.at_string HR0.out 0 p205 q205
                cases e205
                have qi205 : (0 < l0.length) = True := eq_true (by omega)
                (try rw [show ((0 : Int)).toNat = 0 from rfl] at hx205_0)
                (try rw [Addr.add_zero'] at hx205_0)
                replace hx205_0 := (HB.out.cell (World.block_lt_of_cell? w _ hx205_0)).trans hx205_0
                replace p205 := eq_true p205
                replace q205 := eq_true q205
                go_wp2
                go_ret
                exact ⟨by first | rfl | (simp [errW_none, errW_some] <;> rfl) | (simp [*, errW_none, errW_some] <;> rfl), by repeat (first | (with_reducible first | exact HB.out | apply below_alloc | apply pw_below_drewN | apply below_drew1) | exact HB.out)⟩
              · rw [if_neg c9] at H
                exact absurd H (by simp)
            · rw [if_neg c8] at H
              have c8b0 : ((l0.length : Int) == 1) = false := beq_eq_false_iff_ne.mpr c8
              have c8b1 : ((l0.length : Int) != 1) = true := bne_iff_ne.mpr c8
              obtain rfl := Option.some.inj H
              go_wp2
              go_ret
              exact ⟨by first | rfl | (simp [errW_none, errW_some] <;> rfl) | (simp [*, errW_none, errW_some] <;> rfl), by repeat (first | (with_reducible first | exact HB.out | apply below_alloc | apply pw_below_drewN | apply below_drew1) | exact HB.out)⟩
        · rw [if_neg c6] at H
          have c6b0 : ((l0.length : Int) == 0) = false := beq_eq_false_iff_ne.mpr c6
          have c6b1 : ((l0.length : Int) != 0) = true := bne_iff_ne.mpr c6
          have c6b2 : ¬ (l0 = []) := fun h_ => c6 (by rw [h_]; rfl)
          by_cases c10 : (l0.length : Int) = 1
          · rw [if_pos c10] at H
            have c10b0 : ((l0.length : Int) == 1) = true := beq_iff_eq.mpr c10
            have c10b1 : ((l0.length : Int) != 1) = false := bne_eq_false_iff_eq.mpr c10
            clear c10
            by_cases c11 : 0 < (l0.length : Int)
            · rw [if_pos c11] at H
              have c11b0 : decide (0 < (l0.length : Int)) = true := decide_eq_true c11
              have c11b1 : decide (0 < l0.length) = true := decide_eq_true (by omega)
              clear c11
              obtain rfl := Option.some.inj H
              have p206 : 0 ≤ (0 : Int) := (by omega)
              have q206 : 0 < (l0.length : Int) := of_decide_eq_true (by first | (with_reducible assumption) | assumption)
              obtain ⟨ad206, e206, hx206_0⟩ := Kd.at_string HR0.out 0 p206 q206
              cases e206
              have qi206 : (0 < l0.length) = True := eq_true (by omega)
              (try rw [show ((0 : Int)).toNat = 0 from rfl] at hx206_0)
              (try rw [Addr.add_zero'] at hx206_0)
              replace hx206_0 := (HB.out.cell (World.block_lt_of_cell? w _ hx206_0)).trans hx206_0
              replace p206 := eq_true p206
              replace q206 := eq_true q206
              go_wp2
              go_ret
              exact ⟨by first | rfl | (simp [errW_none, errW_some] <;> rfl) | (simp [*, errW_none, errW_some] <;> rfl), by repeat (first | (with_reducible first | exact HB.out | apply below_alloc | apply pw_below_drewN | apply below_drew1) | exact HB.out)⟩
            · rw [if_neg c11] at H
              exact absurd H (by simp)
          · rw [if_neg c10] at H
            have c10b0 : ((l0.length : Int) == 1) = false := beq_eq_false_iff_ne.mpr c10
            have c10b1 : ((l0.length : Int) != 1) = true := bne_iff_ne.mpr c10
            obtain rfl := Option.some.inj H
            go_wp2
            go_ret
            exact ⟨by first | rfl | (simp [errW_none, errW_some] <;> rfl) | (simp [*, errW_none, errW_some] <;> rfl), by repeat (first | (with_reducible first | exact HB.out | apply below_alloc | apply pw_below_drewN | apply below_drew1) | exact HB.out)⟩
      · replace c5 := Bool.eq_false_iff.mpr c5
        subst c5
        have H1 : (if 0 < (l0.length : Int) then (if (rdOf ByteArray.empty l0 0).toList = ([42, 42] : List UInt8) then (some true) else (if (rdOf ByteArray.empty l0 0).toList = ([42] : List UInt8) then (if 1 ≤ (l0.length : Int) then (if 1 ≤ (l1.length : Int) then ((surmiseref08_match.f kj2 (l0.drop 1) (l1.drop 1)).bind fun t211 => (some t211)) else (none)) else (none)) else (if 0 < (l1.length : Int) then (if (rdOf ByteArray.empty l0 0).toList = (rdOf ByteArray.empty l1 0).toList then (if 1 ≤ (l0.length : Int) then (if 1 ≤ (l1.length : Int) then ((surmiseref08_match.f kj2 (l0.drop 1) (l1.drop 1)).bind fun t216 => (some t216)) else (none)) else (none)) else (some false)) else (none)))) else (none)) = some r := by rw [if_neg (show ¬ (false = true) by decide)] at H; exact H
        clear H
        have H := H1
        clear H1
        by_cases c12 : 0 < (l0.length : Int)
        · rw [if_pos c12] at H
          have c12b0 : decide (0 < (l0.length : Int)) = true := decide_eq_true c12
          have c12b1 : decide (0 < l0.length) = true := decide_eq_true (by omega)
          clear c12
          by_cases c13 : (rdOf ByteArray.empty l0 0).toList = ([42, 42] : List UInt8)
          · rw [if_pos c13] at H
            have c13b0 : ((rdOf ByteArray.empty l0 0).toList == ([42, 42] : List UInt8)) = true := beq_iff_eq.mpr c13
            have c13b1 : ((rdOf ByteArray.empty l0 0).toList != ([42, 42] : List UInt8)) = false := bne_eq_false_iff_eq.mpr c13
            clear c13
            obtain rfl := Option.some.inj H
            have p207 : 0 ≤ (0 : Int) := (by omega)
            have q207 : 0 < (l0.length : Int) := of_decide_eq_true (by first | (with_reducible assumption) | assumption)
            obtain ⟨ad207, e207, hx207_0⟩ := Kd.at_string HR0.out 0 p207 q207
            cases e207
            have qi207 : (0 < l0.length) = True := eq_true (by omega)
            (try rw [show ((0 : Int)).toNat = 0 from rfl] at hx207_0)
            (try rw [Addr.add_zero'] at hx207_0)
            replace hx207_0 := (HB.out.cell (World.block_lt_of_cell? w _ hx207_0)).trans hx207_0
            replace p207 := eq_true p207
            replace q207 := eq_true q207
            go_wp2
            go_ret
            exact ⟨by first | rfl | (simp [errW_none, errW_some] <;> rfl) | (simp [*, errW_none, errW_some] <;> rfl), by repeat (first | (with_reducible first | exact HB.out | apply below_alloc | apply pw_below_drewN | apply below_drew1) | exact HB.out)⟩
          · rw [if_neg c13] at H
            have c13b0 : ((rdOf ByteArray.empty l0 0).toList == ([42, 42] : List UInt8)) = false := beq_eq_false_iff_ne.mpr c13
            have c13b1 : ((rdOf ByteArray.empty l0 0).toList != ([42, 42] : List UInt8)) = true := bne_iff_ne.mpr c13
            by_cases c14 : (rdOf ByteArray.empty l0 0).toList = ([42] : List UInt8)
            · rw [if_pos c14] at H
              have c14b0 : ((rdOf ByteArray.empty l0 0).toList == ([42] : List UInt8)) = true := beq_iff_eq.mpr c14
              have c14b1 : ((rdOf ByteArray.empty l0 0).toList != ([42] : List UInt8)) = false := bne_eq_false_iff_eq.mpr c14
              clear c14
              by_cases c15 : 1 ≤ (l0.length : Int)
              · rw [if_pos c15] at H
                have c15b0 := eq_true c15
                have c15b1 : decide (1 ≤ (l0.length : Int)) = true := decide_eq_true c15
                clear c15
                by_cases c16 : 1 ≤ (l1.length : Int)
                · rw [if_pos c16] at H
                  have c16b0 := eq_true c16
                  have c16b1 : decide (1 ≤ (l1.length : Int)) = true := decide_eq_true c16
                  clear c16
                  replace H := Option.bind_eq_some_iff.mp H
                  obtain ⟨t211, A170, H⟩ := H
                  replace H : (some t211) = some r := H
                  have A17 := Aside0.mk A170
                  clear A170
                  obtain rfl := Option.some.inj H
                  have p207 : 0 ≤ (0 : Int) := (by omega)
                  have q207 : 0 < (l0.length : Int) := of_decide_eq_true (by first | (with_reducible assumption) | assumption)
                  obtain ⟨ad207, e207, hx207_0⟩ := Kd.at_string HR0.out 0 p207 q207
                  cases e207
                  have qi207 : (0 < l0.length) = True := eq_true (by omega)
                  (try rw [show ((0 : Int)).toNat = 0 from rfl] at hx207_0)
                  (try rw [Addr.add_zero'] at hx207_0)
                  replace hx207_0 := (HB.out.cell (World.block_lt_of_cell? w _ hx207_0)).trans hx207_0
                  replace p207 := eq_true p207
                  replace q207 := eq_true q207
                  try go_wp2
                  have n0_ := Aside0.mk (below_drew1 HB.out)
                  clear HB
                  have HB := n0_
                  clear n0_
                  have p208 : 0 ≤ (0 : Int) := (by omega)
                  have q208 : 0 < (l0.length : Int) := of_decide_eq_true (by first | (with_reducible assumption) | assumption)
                  obtain ⟨ad208, e208, hx208_0⟩ := Kd.at_string HR0.out 0 p208 q208
                  have hw208_0 := hx208_0
                  (try rw [show ((0 : Int)).toNat = 0 from rfl] at hw208_0)
                  (try rw [show 0 * 1 = 0 from rfl] at hw208_0)
                  (try rw [Addr.add_zero'] at hw208_0)
                  obtain rfl : ad207 = ad208 := (by injection e208)
                  have qi208 : (0 < l0.length) = True := eq_true (by omega)
                  (try rw [show ((0 : Int)).toNat = 0 from rfl] at hx208_0)
                  (try rw [Addr.add_zero'] at hx208_0)
                  replace hx208_0 := (HB.out.cell (World.block_lt_of_cell? w _ hx208_0)).trans hx208_0
                  replace p208 := eq_true p208
                  replace q208 := eq_true q208
                  obtain ⟨i019, hi019, _, hsz19, _⟩ := info_parts info9
                  obtain ⟨A19, hcut19, hA19, hC19⟩ := print_drop_of (P := Try.prog) Value.string (⟨#[]⟩ : ByteArray) 31 9 .i64 Try.underlying31 hi019 hsz19 (some ad207) c0 l0 1 (by omega) (of_decide_eq_true (by first | (with_reducible assumption) | assumption)) HC0.out
                  have HR209 := Aside0.mk (Kd.C_of_reads (h1 := fun _ => rfl) (hA19 _ (Kd.reads_of_C HR0.out)))
                  have HC209 := Aside0.mk hC19
                  clear hA19 hC19 hi019 hsz19
                  obtain ⟨i020, hi020, _, hsz20, _⟩ := info_parts info9
                  obtain ⟨A20, hcut20, hA20, hC20⟩ := print_drop_of (P := Try.prog) Value.string (⟨#[]⟩ : ByteArray) 31 9 .i64 Try.underlying31 hi020 hsz20 A1 c1 l1 1 (by omega) (of_decide_eq_true (by first | (with_reducible assumption) | assumption)) HC1.out
                  have HR210 := Aside0.mk (Kd.C_of_reads (h1 := fun _ => rfl) (hA20 _ (Kd.reads_of_C HR1.out)))
                  have HC210 := Aside0.mk hC20
                  clear hA20 hC20 hi020 hsz20
                  refine start_ (n := 21) (S := fun w' => w'.cell? ad207 = some (.string (rdOf ByteArray.empty l0 0))) (ds := []) #[false, false, false, false, false, false, false, false, false, false, false, false, false, false, false, false, false, false, false, false, false] (by kernel_rfl) rfl rfl (((HB.out.cell (World.block_lt_of_cell? w _ hw208_0)).trans hw208_0)) (fun hHeld => ?_); refine with_tabW surmiseref08_match.tab5 surmiseref08_match.bits5 (fun HT_ HW_ => ?_)
                  generalize wc.drew = w18 at HB HR209 HR210 hx208_0 hHeld ⊢
                  refine pure_ (i := 0) (N := some 36) (v := ?_) (a' := ?_) #[true, false, false, false, false, false, false, false, false, false, false, false, false, false, false, false, false, false, false, false, false] rfl rfl (any_of HT_.out (by kernel_rfl)) (fun _ _ _ h => h) (Or.inl ⟨by rfl, ?_⟩) ?_ ?_
                  rotate_left
                  · intro w'
                    go_simp
                    with_reducible rfl
                  rotate_left
                  · simp only [Act.put, List.setIfInBounds_toArray, List.set_cons_zero, List.set_cons_succ, i64_w, i32_w]
                    rfl
                  refine pure_ (i := 1) (N := some 37) (v := ?_) (a' := ?_) #[true, true, false, false, false, false, false, false, false, false, false, false, false, false, false, false, false, false, false, false, false] rfl rfl (any_of HT_.out (by kernel_rfl)) (fun _ _ _ h => h) (Or.inl ⟨by rfl, ?_⟩) ?_ ?_
                  rotate_left
                  · intro w'
                    go_simp
                    with_reducible rfl
                  rotate_left
                  · simp only [Act.put, List.setIfInBounds_toArray, List.set_cons_zero, List.set_cons_succ, i64_w, i32_w]
                    rfl
                  refine take_ (i := 2) (N := some 38) (v := ?_) (a' := ?_) #[true, true, true, false, false, false, false, false, false, false, false, false, false, false, false, false, false, false, false, false, false] rfl rfl (take_ofW HT_.out HW_.out (by kernel_rfl)) (fun _ _ _ h => h) (Or.inl ⟨by rfl, ?_⟩) hHeld ?_ ?_
                  rotate_left
                  · intro w' s0
                    go_simp
                    with_reducible rfl
                  rotate_left
                  · simp only [Act.put, List.setIfInBounds_toArray, List.set_cons_zero, List.set_cons_succ, i64_w, i32_w]
                    rfl
                  refine pure_ (i := 3) (N := some 39) (v := ?_) (a' := ?_) #[true, true, true, true, false, false, false, false, false, false, false, false, false, false, false, false, false, false, false, false, false] rfl rfl (any_of HT_.out (by kernel_rfl)) (fun _ _ _ h => h) (Or.inl ⟨by rfl, ?_⟩) ?_ ?_
                  rotate_left
                  · intro w'
                    go_simp
                    with_reducible rfl
                  rotate_left
                  · simp only [Act.put, List.setIfInBounds_toArray, List.set_cons_zero, List.set_cons_succ, i64_w, i32_w]
                    rfl
                  refine pure_ (i := 4) (N := some 40) (v := ?_) (a' := ?_) #[true, true, true, true, true, false, false, false, false, false, false, false, false, false, false, false, false, false, false, false, false] rfl rfl (any_of HT_.out (by kernel_rfl)) (fun _ _ _ h => h) (Or.inl ⟨by rfl, ?_⟩) ?_ ?_
                  rotate_left
                  · intro w'
                    go_simp
                    with_reducible rfl
                  rotate_left
                  · simp only [Act.put, List.setIfInBounds_toArray, List.set_cons_zero, List.set_cons_succ, i64_w, i32_w]
                    rfl
                  refine pure_ (i := 5) (N := some 41) (v := undef) (a' := ?_) #[true, true, true, true, true, true, false, false, false, false, false, false, false, false, false, false, false, false, false, false, false] rfl rfl (any_of HT_.out (by kernel_rfl)) (fun _ _ _ h => h) (Or.inr ⟨by rfl, rfl⟩) ?_ ?_
                  rotate_left
                  · simp only [Act.put, List.setIfInBounds_toArray, List.set_cons_zero, List.set_cons_succ, i64_w, i32_w]
                    rfl
                  refine pure_ (i := 6) (N := some 42) (v := undef) (a' := ?_) #[true, true, true, true, true, true, true, false, false, false, false, false, false, false, false, false, false, false, false, false, false] rfl rfl (any_of HT_.out (by kernel_rfl)) (fun _ _ _ h => h) (Or.inr ⟨by rfl, rfl⟩) ?_ ?_
                  rotate_left
                  · simp only [Act.put, List.setIfInBounds_toArray, List.set_cons_zero, List.set_cons_succ, i64_w, i32_w]
                    rfl
                  refine pure_ (i := 7) (N := some 43) (v := undef) (a' := ?_) #[true, true, true, true, true, true, true, true, false, false, false, false, false, false, false, false, false, false, false, false, false] rfl rfl (any_of HT_.out (by kernel_rfl)) (fun _ _ _ h => h) (Or.inr ⟨by rfl, rfl⟩) ?_ ?_
                  rotate_left
                  · simp only [Act.put, List.setIfInBounds_toArray, List.set_cons_zero, List.set_cons_succ, i64_w, i32_w]
                    rfl
                  refine pure_ (i := 8) (N := some 44) (v := undef) (a' := ?_) #[true, true, true, true, true, true, true, true, true, false, false, false, false, false, false, false, false, false, false, false, false] rfl rfl (any_of HT_.out (by kernel_rfl)) (fun _ _ _ h => h) (Or.inr ⟨by rfl, rfl⟩) ?_ ?_
                  rotate_left
                  · simp only [Act.put, List.setIfInBounds_toArray, List.set_cons_zero, List.set_cons_succ, i64_w, i32_w]
                    rfl
                  refine pure_ (i := 9) (N := some 45) (v := undef) (a' := ?_) #[true, true, true, true, true, true, true, true, true, true, false, false, false, false, false, false, false, false, false, false, false] rfl rfl (any_of HT_.out (by kernel_rfl)) (fun _ _ _ h => h) (Or.inr ⟨by rfl, rfl⟩) ?_ ?_
                  rotate_left
                  · simp only [Act.put, List.setIfInBounds_toArray, List.set_cons_zero, List.set_cons_succ, i64_w, i32_w]
                    rfl
                  refine pure_ (i := 10) (N := some 46) (v := undef) (a' := ?_) #[true, true, true, true, true, true, true, true, true, true, true, false, false, false, false, false, false, false, false, false, false] rfl rfl (any_of HT_.out (by kernel_rfl)) (fun _ _ _ h => h) (Or.inr ⟨by rfl, rfl⟩) ?_ ?_
                  rotate_left
                  · simp only [Act.put, List.setIfInBounds_toArray, List.set_cons_zero, List.set_cons_succ, i64_w, i32_w]
                    rfl
                  refine pure_ (i := 11) (N := some 47) (v := undef) (a' := ?_) #[true, true, true, true, true, true, true, true, true, true, true, true, false, false, false, false, false, false, false, false, false] rfl rfl (any_of HT_.out (by kernel_rfl)) (fun _ _ _ h => h) (Or.inr ⟨by rfl, rfl⟩) ?_ ?_
                  rotate_left
                  · simp only [Act.put, List.setIfInBounds_toArray, List.set_cons_zero, List.set_cons_succ, i64_w, i32_w]
                    rfl
                  refine pure_ (i := 12) (N := some 48) (v := ?_) (a' := ?_) #[true, true, true, true, true, true, true, true, true, true, true, true, true, false, false, false, false, false, false, false, false] rfl rfl (any_of HT_.out (by kernel_rfl)) (fun _ _ _ h => h) (Or.inl ⟨by rfl, ?_⟩) ?_ ?_
                  rotate_left
                  · intro w'
                    go_simp
                    with_reducible rfl
                  rotate_left
                  · simp only [Act.put, List.setIfInBounds_toArray, List.set_cons_zero, List.set_cons_succ, i64_w, i32_w]
                    rfl
                  refine pure_ (i := 13) (N := some 49) (v := ?_) (a' := ?_) #[true, true, true, true, true, true, true, true, true, true, true, true, true, true, false, false, false, false, false, false, false] rfl rfl (any_of HT_.out (by kernel_rfl)) (fun _ _ _ h => h) (Or.inl ⟨by rfl, ?_⟩) ?_ ?_
                  rotate_left
                  · intro w'
                    go_simp
                    with_reducible rfl
                  rotate_left
                  · simp only [Act.put, List.setIfInBounds_toArray, List.set_cons_zero, List.set_cons_succ, i64_w, i32_w]
                    rfl
                  refine pure_ (i := 14) (N := some 50) (v := ?_) (a' := ?_) #[true, true, true, true, true, true, true, true, true, true, true, true, true, true, true, false, false, false, false, false, false] rfl rfl (any_of HT_.out (by kernel_rfl)) (fun _ _ _ h => h) (Or.inl ⟨by rfl, ?_⟩) ?_ ?_
                  rotate_left
                  · intro w'
                    go_simp
                    with_reducible rfl
                  rotate_left
                  · simp only [Act.put, List.setIfInBounds_toArray, List.set_cons_zero, List.set_cons_succ, i64_w, i32_w]
                    rfl
                  refine pure_ (i := 15) (N := some 51) (v := ?_) (a' := ?_) #[true, true, true, true, true, true, true, true, true, true, true, true, true, true, true, true, false, false, false, false, false] rfl rfl (any_of HT_.out (by kernel_rfl)) (fun _ _ _ h => h) (Or.inl ⟨by rfl, ?_⟩) ?_ ?_
                  rotate_left
                  · intro w'
                    go_simp
                    with_reducible rfl
                  rotate_left
                  · simp only [Act.put, List.setIfInBounds_toArray, List.set_cons_zero, List.set_cons_succ, i64_w, i32_w]
                    rfl
                  refine pure_ (i := 16) (N := some 52) (v := ?_) (a' := ?_) #[true, true, true, true, true, true, true, true, true, true, true, true, true, true, true, true, true, false, false, false, false] rfl rfl (any_of HT_.out (by kernel_rfl)) (fun _ _ _ h => h) (Or.inl ⟨by rfl, ?_⟩) ?_ ?_
                  rotate_left
                  · intro w'
                    go_simp
                    with_reducible rfl
                  rotate_left
                  · simp only [Act.put, List.setIfInBounds_toArray, List.set_cons_zero, List.set_cons_succ, i64_w, i32_w]
                    rfl
                  refine pure_ (i := 17) (N := some 53) (v := ?_) (a' := ?_) #[true, true, true, true, true, true, true, true, true, true, true, true, true, true, true, true, true, true, false, false, false] rfl rfl (any_of HT_.out (by kernel_rfl)) (fun _ _ _ h => h) (Or.inl ⟨by rfl, ?_⟩) ?_ ?_
                  rotate_left
                  · intro w'
                    go_simp
                    with_reducible rfl
                  rotate_left
                  · simp only [Act.put, List.setIfInBounds_toArray, List.set_cons_zero, List.set_cons_succ, i64_w, i32_w]
                    rfl
                  refine one_ (i := 18) (N := some 54) #[true, true, true, true, true, true, true, true, true, true, true, true, true, true, true, true, true, true, true, false, false] rfl rfl (one_of HT_.out (by kernel_rfl)) (by decide) (fun K hK => ?_)
                  refine goes_ Try.func33 (by kernel_rfl) rfl #[.slice A19 (l0.drop 1).length (c0 - 1), .slice A20 (l1.drop 1).length (c1 - 1)] (by rfl) rfl rfl (by (try simp only [List.map_toArray, List.map_cons, List.map_nil]); first | done | (rw [show (l0.drop 1).length = (l0.length - 1) from List.length_drop] <;> rfl) | (rw [show (l1.drop 1).length = (l1.length - 1) from List.length_drop] <;> rfl) | rfl | (simp only [List.length_drop, List.length_take]; rfl)) ?_
                  with_reducible refine (ih kj2 (by have := HJ2.out; omega) _ _ (l0.drop 1) _ _ (l1.drop 1) t211 _ ?side1 ?side2 ?side3 ?side4 A17.out).mono ?_
                  (case side1 => repeat (first | exact (Kd.C_below HR209.out HB.out) | (with_reducible refine Kd.C_alloc ?_ _) | (with_reducible refine Kd.C_drewN ?_ _) | (with_reducible refine Kd.C_drew ?_)))
                  (case side2 => exact HC209.out)
                  (case side3 => repeat (first | exact (Kd.C_below HR210.out HB.out) | (with_reducible refine Kd.C_alloc ?_ _) | (with_reducible refine Kd.C_drewN ?_ _) | (with_reducible refine Kd.C_drew ?_)))
                  (case side4 => exact HC210.out)
                  rintro e w21 ⟨rfl, hb⟩
                  refine ⟨_, rfl, ?_⟩
                  have n0_ := Aside0.mk (below_step (by repeat (first | (with_reducible first | exact HB.out | apply below_alloc | apply pw_below_drewN | apply below_drew1) | exact HB.out)) hb)
                  clear HB
                  have HB := n0_
                  clear n0_
                  (try clear hb)
                  (try clear hb2)
                  (try clear hk)
                  (try clear hi)
                  refine hK.out _ _ (((HB.out.cell (World.block_lt_of_cell? w _ hw208_0)).trans hw208_0)) (fun hHeld => ?_)
                  clear hK K
                  refine norm_ (a' := ?_) ?_ ?_
                  rotate_left
                  · show Act.put _ (some 54) _ = _
                    simp only [Act.put, List.setIfInBounds_toArray, List.set_cons_zero, List.set_cons_succ, i64_w, i32_w]
                    rfl
                  refine pure_ (i := 19) (N := some 55) (v := ?_) (a' := ?_) #[true, true, true, true, true, true, true, true, true, true, true, true, true, true, true, true, true, true, true, true, false] rfl rfl (any_of HT_.out (by kernel_rfl)) (fun _ _ _ h => h) (Or.inl ⟨by rfl, ?_⟩) ?_ ?_
                  rotate_left
                  · intro w'
                    go_simp
                    with_reducible rfl
                  rotate_left
                  · simp only [Act.put, List.setIfInBounds_toArray, List.set_cons_zero, List.set_cons_succ, i64_w, i32_w]
                    rfl
                  refine pure_ (i := 20) (N := some 4) (v := ?_) (a' := ?_) #[true, true, true, true, true, true, true, true, true, true, true, true, true, true, true, true, true, true, true, true, true] rfl rfl (any_of HT_.out (by kernel_rfl)) (fun _ _ _ h => h) (Or.inl ⟨by rfl, ?_⟩) ?_ ?_
                  rotate_left
                  · intro w'
                    go_simp
                    with_reducible rfl
                  rotate_left
                  · simp only [Act.put, List.setIfInBounds_toArray, List.set_cons_zero, List.set_cons_succ, i64_w, i32_w]
                    rfl
                  refine done_ (done_of HT_.out (by kernel_rfl)) ?_
                  try go_wp2
                  go_ret
                  exact ⟨by first | rfl | (simp [errW_none, errW_some] <;> rfl) | (simp [*, errW_none, errW_some] <;> rfl), by repeat (first | (with_reducible first | exact HB.out | apply below_alloc | apply pw_below_drewN | apply below_drew1) | exact HB.out)⟩
                · rw [if_neg c16] at H
                  exact absurd H (by simp)
              · rw [if_neg c15] at H
                exact absurd H (by simp)
            · rw [if_neg c14] at H
              have c14b0 : ((rdOf ByteArray.empty l0 0).toList == ([42] : List UInt8)) = false := beq_eq_false_iff_ne.mpr c14
              have c14b1 : ((rdOf ByteArray.empty l0 0).toList != ([42] : List UInt8)) = true := bne_iff_ne.mpr c14
              by_cases c22 : 0 < (l1.length : Int)
              · rw [if_pos c22] at H
                have c22b0 : decide (0 < (l1.length : Int)) = true := decide_eq_true c22
                have c22b1 : decide (0 < l1.length) = true := decide_eq_true (by omega)
                clear c22
                by_cases c23 : (rdOf ByteArray.empty l0 0).toList = (rdOf ByteArray.empty l1 0).toList
                · rw [if_pos c23] at H
                  have c23b0 : ((rdOf ByteArray.empty l0 0).toList == (rdOf ByteArray.empty l1 0).toList) = true := beq_iff_eq.mpr c23
                  have c23b1 : ((rdOf ByteArray.empty l0 0).toList != (rdOf ByteArray.empty l1 0).toList) = false := bne_eq_false_iff_eq.mpr c23
                  clear c23
                  by_cases c24 : 1 ≤ (l0.length : Int)
                  · rw [if_pos c24] at H
                    have c24b0 := eq_true c24
                    have c24b1 : decide (1 ≤ (l0.length : Int)) = true := decide_eq_true c24
                    clear c24
                    by_cases c25 : 1 ≤ (l1.length : Int)
                    · rw [if_pos c25] at H
                      have c25b0 := eq_true c25
                      have c25b1 : decide (1 ≤ (l1.length : Int)) = true := decide_eq_true c25
                      clear c25
                      replace H := Option.bind_eq_some_iff.mp H
                      obtain ⟨t216, A260, H⟩ := H
                      replace H : (some t216) = some r := H
                      have A26 := Aside0.mk A260
                      clear A260
                      obtain rfl := Option.some.inj H
                      have p207 : 0 ≤ (0 : Int) := (by omega)
                      have q207 : 0 < (l0.length : Int) := of_decide_eq_true (by first | (with_reducible assumption) | assumption)
                      obtain ⟨ad207, e207, hx207_0⟩ := Kd.at_string HR0.out 0 p207 q207
                      cases e207
                      have qi207 : (0 < l0.length) = True := eq_true (by omega)
                      (try rw [show ((0 : Int)).toNat = 0 from rfl] at hx207_0)
                      (try rw [Addr.add_zero'] at hx207_0)
                      replace hx207_0 := (HB.out.cell (World.block_lt_of_cell? w _ hx207_0)).trans hx207_0
                      replace p207 := eq_true p207
                      replace q207 := eq_true q207
                      try go_wp2
                      have n0_ := Aside0.mk (below_drew1 HB.out)
                      clear HB
                      have HB := n0_
                      clear n0_
                      have p208 : 0 ≤ (0 : Int) := (by omega)
                      have q208 : 0 < (l0.length : Int) := of_decide_eq_true (by first | (with_reducible assumption) | assumption)
                      obtain ⟨ad208, e208, hx208_0⟩ := Kd.at_string HR0.out 0 p208 q208
                      have hw208_0 := hx208_0
                      (try rw [show ((0 : Int)).toNat = 0 from rfl] at hw208_0)
                      (try rw [show 0 * 1 = 0 from rfl] at hw208_0)
                      (try rw [Addr.add_zero'] at hw208_0)
                      obtain rfl : ad207 = ad208 := (by injection e208)
                      have qi208 : (0 < l0.length) = True := eq_true (by omega)
                      (try rw [show ((0 : Int)).toNat = 0 from rfl] at hx208_0)
                      (try rw [Addr.add_zero'] at hx208_0)
                      replace hx208_0 := (HB.out.cell (World.block_lt_of_cell? w _ hx208_0)).trans hx208_0
                      replace p208 := eq_true p208
                      replace q208 := eq_true q208
                      have p212 : 0 ≤ (0 : Int) := (by omega)
                      have q212 : 0 < (l0.length : Int) := of_decide_eq_true (by first | (with_reducible assumption) | assumption)
                      obtain ⟨ad212, e212, hx212_0⟩ := Kd.at_string HR0.out 0 p212 q212
                      have hw212_0 := hx212_0
                      (try rw [show ((0 : Int)).toNat = 0 from rfl] at hw212_0)
                      (try rw [show 0 * 1 = 0 from rfl] at hw212_0)
                      (try rw [Addr.add_zero'] at hw212_0)
                      obtain rfl : ad207 = ad212 := (by injection e212)
                      have qi212 : (0 < l0.length) = True := eq_true (by omega)
                      (try rw [show ((0 : Int)).toNat = 0 from rfl] at hx212_0)
                      (try rw [Addr.add_zero'] at hx212_0)
                      replace hx212_0 := (HB.out.cell (World.block_lt_of_cell? w _ hx212_0)).trans hx212_0
                      replace p212 := eq_true p212
                      replace q212 := eq_true q212
                      have p213 : 0 ≤ (0 : Int) := (by omega)
                      have q213 : 0 < (l1.length : Int) := of_decide_eq_true (by first | (with_reducible assumption) | assumption)
                      obtain ⟨ad213, e213, hx213_0⟩ := Kd.at_string HR1.out 0 p213 q213
                      have hw213_0 := hx213_0
                      (try rw [show ((0 : Int)).toNat = 0 from rfl] at hw213_0)
                      (try rw [show 0 * 1 = 0 from rfl] at hw213_0)
                      (try rw [Addr.add_zero'] at hw213_0)
                      cases e213
                      have qi213 : (0 < l1.length) = True := eq_true (by omega)
                      (try rw [show ((0 : Int)).toNat = 0 from rfl] at hx213_0)
                      (try rw [Addr.add_zero'] at hx213_0)
                      replace hx213_0 := (HB.out.cell (World.block_lt_of_cell? w _ hx213_0)).trans hx213_0
                      replace p213 := eq_true p213
                      replace q213 := eq_true q213
                      obtain ⟨i028, hi028, _, hsz28, _⟩ := info_parts info9
                      obtain ⟨A28, hcut28, hA28, hC28⟩ := print_drop_of (P := Try.prog) Value.string (⟨#[]⟩ : ByteArray) 31 9 .i64 Try.underlying31 hi028 hsz28 (some ad207) c0 l0 1 (by omega) (of_decide_eq_true (by first | (with_reducible assumption) | assumption)) HC0.out
                      have HR214 := Aside0.mk (Kd.C_of_reads (h1 := fun _ => rfl) (hA28 _ (Kd.reads_of_C HR0.out)))
                      have HC214 := Aside0.mk hC28
                      clear hA28 hC28 hi028 hsz28
                      obtain ⟨i029, hi029, _, hsz29, _⟩ := info_parts info9
                      obtain ⟨A29, hcut29, hA29, hC29⟩ := print_drop_of (P := Try.prog) Value.string (⟨#[]⟩ : ByteArray) 31 9 .i64 Try.underlying31 hi029 hsz29 (some ad213) c1 l1 1 (by omega) (of_decide_eq_true (by first | (with_reducible assumption) | assumption)) HC1.out
                      have HR215 := Aside0.mk (Kd.C_of_reads (h1 := fun _ => rfl) (hA29 _ (Kd.reads_of_C HR1.out)))
                      have HC215 := Aside0.mk hC29
                      clear hA29 hC29 hi029 hsz29
                      refine start_ (n := 21) (S := fun w' => w'.cell? ad207 = some (.string (rdOf ByteArray.empty l0 0)) ∧ w'.cell? ad207 = some (.string (rdOf ByteArray.empty l0 0)) ∧ w'.cell? ad213 = some (.string (rdOf ByteArray.empty l1 0))) (ds := []) #[false, false, false, false, false, false, false, false, false, false, false, false, false, false, false, false, false, false, false, false, false] (by kernel_rfl) rfl rfl ⟨((HB.out.cell (World.block_lt_of_cell? w _ hw208_0)).trans hw208_0), ((HB.out.cell (World.block_lt_of_cell? w _ hw212_0)).trans hw212_0), ((HB.out.cell (World.block_lt_of_cell? w _ hw213_0)).trans hw213_0)⟩ (fun hHeld => ?_); refine with_tabW surmiseref08_match.tab5 surmiseref08_match.bits5 (fun HT_ HW_ => ?_)
                      generalize wc.drew = w27 at HB HR214 HR215 hx208_0 hx212_0 hx213_0 hHeld ⊢
                      refine pure_ (i := 0) (N := some 36) (v := ?_) (a' := ?_) #[true, false, false, false, false, false, false, false, false, false, false, false, false, false, false, false, false, false, false, false, false] rfl rfl (any_of HT_.out (by kernel_rfl)) (fun _ _ _ h => h) (Or.inl ⟨by rfl, ?_⟩) ?_ ?_
                      rotate_left
                      · intro w'
                        go_simp
                        with_reducible rfl
                      rotate_left
                      · simp only [Act.put, List.setIfInBounds_toArray, List.set_cons_zero, List.set_cons_succ, i64_w, i32_w]
                        rfl
                      refine pure_ (i := 1) (N := some 37) (v := ?_) (a' := ?_) #[true, true, false, false, false, false, false, false, false, false, false, false, false, false, false, false, false, false, false, false, false] rfl rfl (any_of HT_.out (by kernel_rfl)) (fun _ _ _ h => h) (Or.inl ⟨by rfl, ?_⟩) ?_ ?_
                      rotate_left
                      · intro w'
                        go_simp
                        with_reducible rfl
                      rotate_left
                      · simp only [Act.put, List.setIfInBounds_toArray, List.set_cons_zero, List.set_cons_succ, i64_w, i32_w]
                        rfl
                      refine take_ (i := 2) (N := some 38) (v := ?_) (a' := ?_) #[true, true, true, false, false, false, false, false, false, false, false, false, false, false, false, false, false, false, false, false, false] rfl rfl (take_ofW HT_.out HW_.out (by kernel_rfl)) (fun _ _ _ h => h) (Or.inl ⟨by rfl, ?_⟩) hHeld ?_ ?_
                      rotate_left
                      · rintro w' ⟨s0, s1, s2⟩
                        go_simp
                        with_reducible rfl
                      rotate_left
                      · simp only [Act.put, List.setIfInBounds_toArray, List.set_cons_zero, List.set_cons_succ, i64_w, i32_w]
                        rfl
                      refine pure_ (i := 3) (N := some 39) (v := ?_) (a' := ?_) #[true, true, true, true, false, false, false, false, false, false, false, false, false, false, false, false, false, false, false, false, false] rfl rfl (any_of HT_.out (by kernel_rfl)) (fun _ _ _ h => h) (Or.inl ⟨by rfl, ?_⟩) ?_ ?_
                      rotate_left
                      · intro w'
                        go_simp
                        with_reducible rfl
                      rotate_left
                      · simp only [Act.put, List.setIfInBounds_toArray, List.set_cons_zero, List.set_cons_succ, i64_w, i32_w]
                        rfl
                      refine pure_ (i := 4) (N := some 40) (v := ?_) (a' := ?_) #[true, true, true, true, true, false, false, false, false, false, false, false, false, false, false, false, false, false, false, false, false] rfl rfl (any_of HT_.out (by kernel_rfl)) (fun _ _ _ h => h) (Or.inl ⟨by rfl, ?_⟩) ?_ ?_
                      rotate_left
                      · intro w'
                        go_simp
                        with_reducible rfl
                      rotate_left
                      · simp only [Act.put, List.setIfInBounds_toArray, List.set_cons_zero, List.set_cons_succ, i64_w, i32_w]
                        rfl
                      refine pure_ (i := 5) (N := some 41) (v := ?_) (a' := ?_) #[true, true, true, true, true, true, false, false, false, false, false, false, false, false, false, false, false, false, false, false, false] rfl rfl (any_of HT_.out (by kernel_rfl)) (fun _ _ _ h => h) (Or.inl ⟨by rfl, ?_⟩) ?_ ?_
                      rotate_left
                      · intro w'
                        go_simp
                        with_reducible rfl
                      rotate_left
                      · simp only [Act.put, List.setIfInBounds_toArray, List.set_cons_zero, List.set_cons_succ, i64_w, i32_w]
                        rfl
                      refine pure_ (i := 6) (N := some 42) (v := ?_) (a' := ?_) #[true, true, true, true, true, true, true, false, false, false, false, false, false, false, false, false, false, false, false, false, false] rfl rfl (any_of HT_.out (by kernel_rfl)) (fun _ _ _ h => h) (Or.inl ⟨by rfl, ?_⟩) ?_ ?_
                      rotate_left
                      · intro w'
                        go_simp
                        with_reducible rfl
                      rotate_left
                      · simp only [Act.put, List.setIfInBounds_toArray, List.set_cons_zero, List.set_cons_succ, i64_w, i32_w]
                        rfl
                      refine pure_ (i := 8) (N := some 44) (v := ?_) (a' := ?_) #[true, true, true, true, true, true, true, false, true, false, false, false, false, false, false, false, false, false, false, false, false] rfl rfl (any_of HT_.out (by kernel_rfl)) (fun _ _ _ h => h) (Or.inl ⟨by rfl, ?_⟩) ?_ ?_
                      rotate_left
                      · intro w'
                        go_simp
                        with_reducible rfl
                      rotate_left
                      · simp only [Act.put, List.setIfInBounds_toArray, List.set_cons_zero, List.set_cons_succ, i64_w, i32_w]
                        rfl
                      refine pure_ (i := 9) (N := some 45) (v := ?_) (a' := ?_) #[true, true, true, true, true, true, true, false, true, true, false, false, false, false, false, false, false, false, false, false, false] rfl rfl (any_of HT_.out (by kernel_rfl)) (fun _ _ _ h => h) (Or.inl ⟨by rfl, ?_⟩) ?_ ?_
                      rotate_left
                      · intro w'
                        go_simp
                        with_reducible rfl
                      rotate_left
                      · simp only [Act.put, List.setIfInBounds_toArray, List.set_cons_zero, List.set_cons_succ, i64_w, i32_w]
                        rfl
                      refine take_ (i := 7) (N := some 43) (v := ?_) (a' := ?_) #[true, true, true, true, true, true, true, true, true, true, false, false, false, false, false, false, false, false, false, false, false] rfl rfl (take_ofW HT_.out HW_.out (by kernel_rfl)) (fun _ _ _ h => h) (Or.inl ⟨by rfl, ?_⟩) hHeld ?_ ?_
                      rotate_left
                      · rintro w' ⟨s0, s1, s2⟩
                        go_simp
                        with_reducible rfl
                      rotate_left
                      · simp only [Act.put, List.setIfInBounds_toArray, List.set_cons_zero, List.set_cons_succ, i64_w, i32_w]
                        rfl
                      refine take_ (i := 10) (N := some 46) (v := ?_) (a' := ?_) #[true, true, true, true, true, true, true, true, true, true, true, false, false, false, false, false, false, false, false, false, false] rfl rfl (take_ofW HT_.out HW_.out (by kernel_rfl)) (fun _ _ _ h => h) (Or.inl ⟨by rfl, ?_⟩) hHeld ?_ ?_
                      rotate_left
                      · rintro w' ⟨s0, s1, s2⟩
                        go_simp
                        with_reducible rfl
                      rotate_left
                      · simp only [Act.put, List.setIfInBounds_toArray, List.set_cons_zero, List.set_cons_succ, i64_w, i32_w]
                        rfl
                      refine pure_ (i := 11) (N := some 47) (v := ?_) (a' := ?_) #[true, true, true, true, true, true, true, true, true, true, true, true, false, false, false, false, false, false, false, false, false] rfl rfl (any_of HT_.out (by kernel_rfl)) (fun _ _ _ h => h) (Or.inl ⟨by rfl, ?_⟩) ?_ ?_
                      rotate_left
                      · intro w'
                        go_simp
                        with_reducible rfl
                      rotate_left
                      · simp only [Act.put, List.setIfInBounds_toArray, List.set_cons_zero, List.set_cons_succ, i64_w, i32_w]
                        rfl
                      refine pure_ (i := 12) (N := some 48) (v := ?_) (a' := ?_) #[true, true, true, true, true, true, true, true, true, true, true, true, true, false, false, false, false, false, false, false, false] rfl rfl (any_of HT_.out (by kernel_rfl)) (fun _ _ _ h => h) (Or.inl ⟨by rfl, ?_⟩) ?_ ?_
                      rotate_left
                      · intro w'
                        go_simp
                        with_reducible rfl
                      rotate_left
                      · simp only [Act.put, List.setIfInBounds_toArray, List.set_cons_zero, List.set_cons_succ, i64_w, i32_w]
                        rfl
                      refine pure_ (i := 13) (N := some 49) (v := ?_) (a' := ?_) #[true, true, true, true, true, true, true, true, true, true, true, true, true, true, false, false, false, false, false, false, false] rfl rfl (any_of HT_.out (by kernel_rfl)) (fun _ _ _ h => h) (Or.inl ⟨by rfl, ?_⟩) ?_ ?_
                      rotate_left
                      · intro w'
                        go_simp
                        with_reducible rfl
                      rotate_left
                      · simp only [Act.put, List.setIfInBounds_toArray, List.set_cons_zero, List.set_cons_succ, i64_w, i32_w]
                        rfl
                      refine pure_ (i := 14) (N := some 50) (v := ?_) (a' := ?_) #[true, true, true, true, true, true, true, true, true, true, true, true, true, true, true, false, false, false, false, false, false] rfl rfl (any_of HT_.out (by kernel_rfl)) (fun _ _ _ h => h) (Or.inl ⟨by rfl, ?_⟩) ?_ ?_
                      rotate_left
                      · intro w'
                        go_simp
                        with_reducible rfl
                      rotate_left
                      · simp only [Act.put, List.setIfInBounds_toArray, List.set_cons_zero, List.set_cons_succ, i64_w, i32_w]
                        rfl
                      refine pure_ (i := 15) (N := some 51) (v := ?_) (a' := ?_) #[true, true, true, true, true, true, true, true, true, true, true, true, true, true, true, true, false, false, false, false, false] rfl rfl (any_of HT_.out (by kernel_rfl)) (fun _ _ _ h => h) (Or.inl ⟨by rfl, ?_⟩) ?_ ?_
                      rotate_left
                      · intro w'
                        go_simp
                        with_reducible rfl
                      rotate_left
                      · simp only [Act.put, List.setIfInBounds_toArray, List.set_cons_zero, List.set_cons_succ, i64_w, i32_w]
                        rfl
                      refine pure_ (i := 16) (N := some 52) (v := ?_) (a' := ?_) #[true, true, true, true, true, true, true, true, true, true, true, true, true, true, true, true, true, false, false, false, false] rfl rfl (any_of HT_.out (by kernel_rfl)) (fun _ _ _ h => h) (Or.inl ⟨by rfl, ?_⟩) ?_ ?_
                      rotate_left
                      · intro w'
                        go_simp
                        with_reducible rfl
                      rotate_left
                      · simp only [Act.put, List.setIfInBounds_toArray, List.set_cons_zero, List.set_cons_succ, i64_w, i32_w]
                        rfl
                      refine pure_ (i := 17) (N := some 53) (v := ?_) (a' := ?_) #[true, true, true, true, true, true, true, true, true, true, true, true, true, true, true, true, true, true, false, false, false] rfl rfl (any_of HT_.out (by kernel_rfl)) (fun _ _ _ h => h) (Or.inl ⟨by rfl, ?_⟩) ?_ ?_
                      rotate_left
                      · intro w'
                        go_simp
                        with_reducible rfl
                      rotate_left
                      · simp only [Act.put, List.setIfInBounds_toArray, List.set_cons_zero, List.set_cons_succ, i64_w, i32_w]
                        rfl
                      refine one_ (i := 18) (N := some 54) #[true, true, true, true, true, true, true, true, true, true, true, true, true, true, true, true, true, true, true, false, false] rfl rfl (one_of HT_.out (by kernel_rfl)) (by decide) (fun K hK => ?_)
                      refine goes_ Try.func33 (by kernel_rfl) rfl #[.slice A28 (l0.drop 1).length (c0 - 1), .slice A29 (l1.drop 1).length (c1 - 1)] (by rfl) rfl rfl (by (try simp only [List.map_toArray, List.map_cons, List.map_nil]); first | done | (rw [show (l0.drop 1).length = (l0.length - 1) from List.length_drop] <;> rfl) | (rw [show (l1.drop 1).length = (l1.length - 1) from List.length_drop] <;> rfl) | rfl | (simp only [List.length_drop, List.length_take]; rfl)) ?_
                      with_reducible refine (ih kj2 (by have := HJ2.out; omega) _ _ (l0.drop 1) _ _ (l1.drop 1) t216 _ ?side1 ?side2 ?side3 ?side4 A26.out).mono ?_
                      (case side1 => repeat (first | exact (Kd.C_below HR214.out HB.out) | (with_reducible refine Kd.C_alloc ?_ _) | (with_reducible refine Kd.C_drewN ?_ _) | (with_reducible refine Kd.C_drew ?_)))
                      (case side2 => exact HC214.out)
                      (case side3 => repeat (first | exact (Kd.C_below HR215.out HB.out) | (with_reducible refine Kd.C_alloc ?_ _) | (with_reducible refine Kd.C_drewN ?_ _) | (with_reducible refine Kd.C_drew ?_)))
                      (case side4 => exact HC215.out)
                      rintro e w30 ⟨rfl, hb⟩
                      refine ⟨_, rfl, ?_⟩
                      have n0_ := Aside0.mk (below_step (by repeat (first | (with_reducible first | exact HB.out | apply below_alloc | apply pw_below_drewN | apply below_drew1) | exact HB.out)) hb)
                      clear HB
                      have HB := n0_
                      clear n0_
                      (try clear hb)
                      (try clear hb2)
                      (try clear hk)
                      (try clear hi)
                      refine hK.out _ _ ⟨((HB.out.cell (World.block_lt_of_cell? w _ hw208_0)).trans hw208_0), ((HB.out.cell (World.block_lt_of_cell? w _ hw212_0)).trans hw212_0), ((HB.out.cell (World.block_lt_of_cell? w _ hw213_0)).trans hw213_0)⟩ (fun hHeld => ?_)
                      clear hK K
                      refine norm_ (a' := ?_) ?_ ?_
                      rotate_left
                      · show Act.put _ (some 54) _ = _
                        simp only [Act.put, List.setIfInBounds_toArray, List.set_cons_zero, List.set_cons_succ, i64_w, i32_w]
                        rfl
                      refine pure_ (i := 19) (N := some 55) (v := ?_) (a' := ?_) #[true, true, true, true, true, true, true, true, true, true, true, true, true, true, true, true, true, true, true, true, false] rfl rfl (any_of HT_.out (by kernel_rfl)) (fun _ _ _ h => h) (Or.inl ⟨by rfl, ?_⟩) ?_ ?_
                      rotate_left
                      · intro w'
                        go_simp
                        with_reducible rfl
                      rotate_left
                      · simp only [Act.put, List.setIfInBounds_toArray, List.set_cons_zero, List.set_cons_succ, i64_w, i32_w]
                        rfl
                      refine pure_ (i := 20) (N := some 4) (v := ?_) (a' := ?_) #[true, true, true, true, true, true, true, true, true, true, true, true, true, true, true, true, true, true, true, true, true] rfl rfl (any_of HT_.out (by kernel_rfl)) (fun _ _ _ h => h) (Or.inl ⟨by rfl, ?_⟩) ?_ ?_
                      rotate_left
                      · intro w'
                        go_simp
                        with_reducible rfl
                      rotate_left
                      · simp only [Act.put, List.setIfInBounds_toArray, List.set_cons_zero, List.set_cons_succ, i64_w, i32_w]
                        rfl
                      refine done_ (done_of HT_.out (by kernel_rfl)) ?_
                      try go_wp2
                      go_ret
                      exact ⟨by first | rfl | (simp [errW_none, errW_some] <;> rfl) | (simp [*, errW_none, errW_some] <;> rfl), by repeat (first | (with_reducible first | exact HB.out | apply below_alloc | apply pw_below_drewN | apply below_drew1) | exact HB.out)⟩
                    · rw [if_neg c25] at H
                      exact absurd H (by simp)
                  · rw [if_neg c24] at H
                    exact absurd H (by simp)
                · rw [if_neg c23] at H
                  have c23b0 : ((rdOf ByteArray.empty l0 0).toList == (rdOf ByteArray.empty l1 0).toList) = false := beq_eq_false_iff_ne.mpr c23
                  have c23b1 : ((rdOf ByteArray.empty l0 0).toList != (rdOf ByteArray.empty l1 0).toList) = true := bne_iff_ne.mpr c23
                  obtain rfl := Option.some.inj H
                  have p207 : 0 ≤ (0 : Int) := (by omega)
                  have q207 : 0 < (l0.length : Int) := of_decide_eq_true (by first | (with_reducible assumption) | assumption)
                  obtain ⟨ad207, e207, hx207_0⟩ := Kd.at_string HR0.out 0 p207 q207
                  cases e207
                  have qi207 : (0 < l0.length) = True := eq_true (by omega)
                  (try rw [show ((0 : Int)).toNat = 0 from rfl] at hx207_0)
                  (try rw [Addr.add_zero'] at hx207_0)
                  replace hx207_0 := (HB.out.cell (World.block_lt_of_cell? w _ hx207_0)).trans hx207_0
                  replace p207 := eq_true p207
                  replace q207 := eq_true q207
                  try go_wp2
                  have n0_ := Aside0.mk (below_drew1 HB.out)
                  clear HB
                  have HB := n0_
                  clear n0_
                  have p208 : 0 ≤ (0 : Int) := (by omega)
                  have q208 : 0 < (l0.length : Int) := of_decide_eq_true (by first | (with_reducible assumption) | assumption)
                  obtain ⟨ad208, e208, hx208_0⟩ := Kd.at_string HR0.out 0 p208 q208
                  have hw208_0 := hx208_0
                  (try rw [show ((0 : Int)).toNat = 0 from rfl] at hw208_0)
                  (try rw [show 0 * 1 = 0 from rfl] at hw208_0)
                  (try rw [Addr.add_zero'] at hw208_0)
                  obtain rfl : ad207 = ad208 := (by injection e208)
                  have qi208 : (0 < l0.length) = True := eq_true (by omega)
                  (try rw [show ((0 : Int)).toNat = 0 from rfl] at hx208_0)
                  (try rw [Addr.add_zero'] at hx208_0)
                  replace hx208_0 := (HB.out.cell (World.block_lt_of_cell? w _ hx208_0)).trans hx208_0
                  replace p208 := eq_true p208
                  replace q208 := eq_true q208
                  have p212 : 0 ≤ (0 : Int) := (by omega)
                  have q212 : 0 < (l0.length : Int) := of_decide_eq_true (by first | (with_reducible assumption) | assumption)
                  obtain ⟨ad212, e212, hx212_0⟩ := Kd.at_string HR0.out 0 p212 q212
                  have hw212_0 := hx212_0
                  (try rw [show ((0 : Int)).toNat = 0 from rfl] at hw212_0)
                  (try rw [show 0 * 1 = 0 from rfl] at hw212_0)
                  (try rw [Addr.add_zero'] at hw212_0)
                  obtain rfl : ad207 = ad212 := (by injection e212)
                  have qi212 : (0 < l0.length) = True := eq_true (by omega)
                  (try rw [show ((0 : Int)).toNat = 0 from rfl] at hx212_0)
                  (try rw [Addr.add_zero'] at hx212_0)
                  replace hx212_0 := (HB.out.cell (World.block_lt_of_cell? w _ hx212_0)).trans hx212_0
                  replace p212 := eq_true p212
                  replace q212 := eq_true q212
                  have p213 : 0 ≤ (0 : Int) := (by omega)
                  have q213 : 0 < (l1.length : Int) := of_decide_eq_true (by first | (with_reducible assumption) | assumption)
                  obtain ⟨ad213, e213, hx213_0⟩ := Kd.at_string HR1.out 0 p213 q213
                  have hw213_0 := hx213_0
                  (try rw [show ((0 : Int)).toNat = 0 from rfl] at hw213_0)
                  (try rw [show 0 * 1 = 0 from rfl] at hw213_0)
                  (try rw [Addr.add_zero'] at hw213_0)
                  cases e213
                  have qi213 : (0 < l1.length) = True := eq_true (by omega)
                  (try rw [show ((0 : Int)).toNat = 0 from rfl] at hx213_0)
                  (try rw [Addr.add_zero'] at hx213_0)
                  replace hx213_0 := (HB.out.cell (World.block_lt_of_cell? w _ hx213_0)).trans hx213_0
                  replace p213 := eq_true p213
                  replace q213 := eq_true q213
                  refine start_ (n := 21) (S := fun w' => w'.cell? ad207 = some (.string (rdOf ByteArray.empty l0 0)) ∧ w'.cell? ad207 = some (.string (rdOf ByteArray.empty l0 0)) ∧ w'.cell? ad213 = some (.string (rdOf ByteArray.empty l1 0))) (ds := []) #[false, false, false, false, false, false, false, false, false, false, false, false, false, false, false, false, false, false, false, false, false] (by kernel_rfl) rfl rfl ⟨((HB.out.cell (World.block_lt_of_cell? w _ hw208_0)).trans hw208_0), ((HB.out.cell (World.block_lt_of_cell? w _ hw212_0)).trans hw212_0), ((HB.out.cell (World.block_lt_of_cell? w _ hw213_0)).trans hw213_0)⟩ (fun hHeld => ?_); refine with_tabW surmiseref08_match.tab5 surmiseref08_match.bits5 (fun HT_ HW_ => ?_)
                  generalize wc.drew = w31 at HB hx208_0 hx212_0 hx213_0 hHeld ⊢
                  refine pure_ (i := 0) (N := some 36) (v := ?_) (a' := ?_) #[true, false, false, false, false, false, false, false, false, false, false, false, false, false, false, false, false, false, false, false, false] rfl rfl (any_of HT_.out (by kernel_rfl)) (fun _ _ _ h => h) (Or.inl ⟨by rfl, ?_⟩) ?_ ?_
                  rotate_left
                  · intro w'
                    go_simp
                    with_reducible rfl
                  rotate_left
                  · simp only [Act.put, List.setIfInBounds_toArray, List.set_cons_zero, List.set_cons_succ, i64_w, i32_w]
                    rfl
                  refine pure_ (i := 1) (N := some 37) (v := ?_) (a' := ?_) #[true, true, false, false, false, false, false, false, false, false, false, false, false, false, false, false, false, false, false, false, false] rfl rfl (any_of HT_.out (by kernel_rfl)) (fun _ _ _ h => h) (Or.inl ⟨by rfl, ?_⟩) ?_ ?_
                  rotate_left
                  · intro w'
                    go_simp
                    with_reducible rfl
                  rotate_left
                  · simp only [Act.put, List.setIfInBounds_toArray, List.set_cons_zero, List.set_cons_succ, i64_w, i32_w]
                    rfl
                  refine take_ (i := 2) (N := some 38) (v := ?_) (a' := ?_) #[true, true, true, false, false, false, false, false, false, false, false, false, false, false, false, false, false, false, false, false, false] rfl rfl (take_ofW HT_.out HW_.out (by kernel_rfl)) (fun _ _ _ h => h) (Or.inl ⟨by rfl, ?_⟩) hHeld ?_ ?_
                  rotate_left
                  · rintro w' ⟨s0, s1, s2⟩
                    go_simp
                    with_reducible rfl
                  rotate_left
                  · simp only [Act.put, List.setIfInBounds_toArray, List.set_cons_zero, List.set_cons_succ, i64_w, i32_w]
                    rfl
                  refine pure_ (i := 3) (N := some 39) (v := ?_) (a' := ?_) #[true, true, true, true, false, false, false, false, false, false, false, false, false, false, false, false, false, false, false, false, false] rfl rfl (any_of HT_.out (by kernel_rfl)) (fun _ _ _ h => h) (Or.inl ⟨by rfl, ?_⟩) ?_ ?_
                  rotate_left
                  · intro w'
                    go_simp
                    with_reducible rfl
                  rotate_left
                  · simp only [Act.put, List.setIfInBounds_toArray, List.set_cons_zero, List.set_cons_succ, i64_w, i32_w]
                    rfl
                  refine pure_ (i := 4) (N := some 40) (v := ?_) (a' := ?_) #[true, true, true, true, true, false, false, false, false, false, false, false, false, false, false, false, false, false, false, false, false] rfl rfl (any_of HT_.out (by kernel_rfl)) (fun _ _ _ h => h) (Or.inl ⟨by rfl, ?_⟩) ?_ ?_
                  rotate_left
                  · intro w'
                    go_simp
                    with_reducible rfl
                  rotate_left
                  · simp only [Act.put, List.setIfInBounds_toArray, List.set_cons_zero, List.set_cons_succ, i64_w, i32_w]
                    rfl
                  refine pure_ (i := 5) (N := some 41) (v := ?_) (a' := ?_) #[true, true, true, true, true, true, false, false, false, false, false, false, false, false, false, false, false, false, false, false, false] rfl rfl (any_of HT_.out (by kernel_rfl)) (fun _ _ _ h => h) (Or.inl ⟨by rfl, ?_⟩) ?_ ?_
                  rotate_left
                  · intro w'
                    go_simp
                    with_reducible rfl
                  rotate_left
                  · simp only [Act.put, List.setIfInBounds_toArray, List.set_cons_zero, List.set_cons_succ, i64_w, i32_w]
                    rfl
                  refine pure_ (i := 6) (N := some 42) (v := ?_) (a' := ?_) #[true, true, true, true, true, true, true, false, false, false, false, false, false, false, false, false, false, false, false, false, false] rfl rfl (any_of HT_.out (by kernel_rfl)) (fun _ _ _ h => h) (Or.inl ⟨by rfl, ?_⟩) ?_ ?_
                  rotate_left
                  · intro w'
                    go_simp
                    with_reducible rfl
                  rotate_left
                  · simp only [Act.put, List.setIfInBounds_toArray, List.set_cons_zero, List.set_cons_succ, i64_w, i32_w]
                    rfl
                  refine pure_ (i := 8) (N := some 44) (v := ?_) (a' := ?_) #[true, true, true, true, true, true, true, false, true, false, false, false, false, false, false, false, false, false, false, false, false] rfl rfl (any_of HT_.out (by kernel_rfl)) (fun _ _ _ h => h) (Or.inl ⟨by rfl, ?_⟩) ?_ ?_
                  rotate_left
                  · intro w'
                    go_simp
                    with_reducible rfl
                  rotate_left
                  · simp only [Act.put, List.setIfInBounds_toArray, List.set_cons_zero, List.set_cons_succ, i64_w, i32_w]
                    rfl
                  refine pure_ (i := 9) (N := some 45) (v := ?_) (a' := ?_) #[true, true, true, true, true, true, true, false, true, true, false, false, false, false, false, false, false, false, false, false, false] rfl rfl (any_of HT_.out (by kernel_rfl)) (fun _ _ _ h => h) (Or.inl ⟨by rfl, ?_⟩) ?_ ?_
                  rotate_left
                  · intro w'
                    go_simp
                    with_reducible rfl
                  rotate_left
                  · simp only [Act.put, List.setIfInBounds_toArray, List.set_cons_zero, List.set_cons_succ, i64_w, i32_w]
                    rfl
                  refine take_ (i := 7) (N := some 43) (v := ?_) (a' := ?_) #[true, true, true, true, true, true, true, true, true, true, false, false, false, false, false, false, false, false, false, false, false] rfl rfl (take_ofW HT_.out HW_.out (by kernel_rfl)) (fun _ _ _ h => h) (Or.inl ⟨by rfl, ?_⟩) hHeld ?_ ?_
                  rotate_left
                  · rintro w' ⟨s0, s1, s2⟩
                    go_simp
                    with_reducible rfl
                  rotate_left
                  · simp only [Act.put, List.setIfInBounds_toArray, List.set_cons_zero, List.set_cons_succ, i64_w, i32_w]
                    rfl
                  refine take_ (i := 10) (N := some 46) (v := ?_) (a' := ?_) #[true, true, true, true, true, true, true, true, true, true, true, false, false, false, false, false, false, false, false, false, false] rfl rfl (take_ofW HT_.out HW_.out (by kernel_rfl)) (fun _ _ _ h => h) (Or.inl ⟨by rfl, ?_⟩) hHeld ?_ ?_
                  rotate_left
                  · rintro w' ⟨s0, s1, s2⟩
                    go_simp
                    with_reducible rfl
                  rotate_left
                  · simp only [Act.put, List.setIfInBounds_toArray, List.set_cons_zero, List.set_cons_succ, i64_w, i32_w]
                    rfl
                  refine pure_ (i := 11) (N := some 47) (v := ?_) (a' := ?_) #[true, true, true, true, true, true, true, true, true, true, true, true, false, false, false, false, false, false, false, false, false] rfl rfl (any_of HT_.out (by kernel_rfl)) (fun _ _ _ h => h) (Or.inl ⟨by rfl, ?_⟩) ?_ ?_
                  rotate_left
                  · intro w'
                    go_simp
                    with_reducible rfl
                  rotate_left
                  · simp only [Act.put, List.setIfInBounds_toArray, List.set_cons_zero, List.set_cons_succ, i64_w, i32_w]
                    rfl
                  refine pure_ (i := 12) (N := some 48) (v := ?_) (a' := ?_) #[true, true, true, true, true, true, true, true, true, true, true, true, true, false, false, false, false, false, false, false, false] rfl rfl (any_of HT_.out (by kernel_rfl)) (fun _ _ _ h => h) (Or.inl ⟨by rfl, ?_⟩) ?_ ?_
                  rotate_left
                  · intro w'
                    go_simp
                    with_reducible rfl
                  rotate_left
                  · simp only [Act.put, List.setIfInBounds_toArray, List.set_cons_zero, List.set_cons_succ, i64_w, i32_w]
                    rfl
                  refine pure_ (i := 13) (N := some 49) (v := ?_) (a' := ?_) #[true, true, true, true, true, true, true, true, true, true, true, true, true, true, false, false, false, false, false, false, false] rfl rfl (any_of HT_.out (by kernel_rfl)) (fun _ _ _ h => h) (Or.inl ⟨by rfl, ?_⟩) ?_ ?_
                  rotate_left
                  · intro w'
                    go_simp
                    with_reducible rfl
                  rotate_left
                  · simp only [Act.put, List.setIfInBounds_toArray, List.set_cons_zero, List.set_cons_succ, i64_w, i32_w]
                    rfl
                  refine pure_ (i := 14) (N := some 50) (v := undef) (a' := ?_) #[true, true, true, true, true, true, true, true, true, true, true, true, true, true, true, false, false, false, false, false, false] rfl rfl (any_of HT_.out (by kernel_rfl)) (fun _ _ _ h => h) (Or.inr ⟨by rfl, rfl⟩) ?_ ?_
                  rotate_left
                  · simp only [Act.put, List.setIfInBounds_toArray, List.set_cons_zero, List.set_cons_succ, i64_w, i32_w]
                    rfl
                  refine pure_ (i := 15) (N := some 51) (v := undef) (a' := ?_) #[true, true, true, true, true, true, true, true, true, true, true, true, true, true, true, true, false, false, false, false, false] rfl rfl (any_of HT_.out (by kernel_rfl)) (fun _ _ _ h => h) (Or.inr ⟨by rfl, rfl⟩) ?_ ?_
                  rotate_left
                  · simp only [Act.put, List.setIfInBounds_toArray, List.set_cons_zero, List.set_cons_succ, i64_w, i32_w]
                    rfl
                  refine pure_ (i := 16) (N := some 52) (v := undef) (a' := ?_) #[true, true, true, true, true, true, true, true, true, true, true, true, true, true, true, true, true, false, false, false, false] rfl rfl (any_of HT_.out (by kernel_rfl)) (fun _ _ _ h => h) (Or.inr ⟨by rfl, rfl⟩) ?_ ?_
                  rotate_left
                  · simp only [Act.put, List.setIfInBounds_toArray, List.set_cons_zero, List.set_cons_succ, i64_w, i32_w]
                    rfl
                  refine pure_ (i := 17) (N := some 53) (v := undef) (a' := ?_) #[true, true, true, true, true, true, true, true, true, true, true, true, true, true, true, true, true, true, false, false, false] rfl rfl (any_of HT_.out (by kernel_rfl)) (fun _ _ _ h => h) (Or.inr ⟨by rfl, rfl⟩) ?_ ?_
                  rotate_left
                  · simp only [Act.put, List.setIfInBounds_toArray, List.set_cons_zero, List.set_cons_succ, i64_w, i32_w]
                    rfl
                  refine pure_ (i := 18) (N := some 54) (v := undef) (a' := ?_) #[true, true, true, true, true, true, true, true, true, true, true, true, true, true, true, true, true, true, true, false, false] rfl rfl (any_of HT_.out (by kernel_rfl)) (fun _ _ _ h => h) (Or.inr ⟨by rfl, rfl⟩) ?_ ?_
                  rotate_left
                  · simp only [Act.put, List.setIfInBounds_toArray, List.set_cons_zero, List.set_cons_succ, i64_w, i32_w]
                    rfl
                  refine pure_ (i := 19) (N := some 55) (v := ?_) (a' := ?_) #[true, true, true, true, true, true, true, true, true, true, true, true, true, true, true, true, true, true, true, true, false] rfl rfl (any_of HT_.out (by kernel_rfl)) (fun _ _ _ h => h) (Or.inl ⟨by rfl, ?_⟩) ?_ ?_
                  rotate_left
                  · intro w'
                    go_simp
                    with_reducible rfl
                  rotate_left
                  · simp only [Act.put, List.setIfInBounds_toArray, List.set_cons_zero, List.set_cons_succ, i64_w, i32_w]
                    rfl
                  refine pure_ (i := 20) (N := some 4) (v := ?_) (a' := ?_) #[true, true, true, true, true, true, true, true, true, true, true, true, true, true, true, true, true, true, true, true, true] rfl rfl (any_of HT_.out (by kernel_rfl)) (fun _ _ _ h => h) (Or.inl ⟨by rfl, ?_⟩) ?_ ?_
                  rotate_left
                  · intro w'
                    go_simp
                    with_reducible rfl
                  rotate_left
                  · simp only [Act.put, List.setIfInBounds_toArray, List.set_cons_zero, List.set_cons_succ, i64_w, i32_w]
                    rfl
                  refine done_ (done_of HT_.out (by kernel_rfl)) ?_
                  try go_wp2
                  go_ret
                  exact ⟨by first | rfl | (simp [errW_none, errW_some] <;> rfl) | (simp [*, errW_none, errW_some] <;> rfl), by repeat (first | (with_reducible first | exact HB.out | apply below_alloc | apply pw_below_drewN | apply below_drew1) | exact HB.out)⟩
              · rw [if_neg c22] at H
                exact absurd H (by simp)
        · rw [if_neg c12] at H
          exact absurd H (by simp)

end Go.Proofs.Ytlcgmlfiggkppaa.Q

-- By px.py, a program of this session that drives the kit's printer: laid out of the translation; Lean checks it.
namespace Go.Proofs.Ytlcgmlfiggkppaa.Q
open Go.RowKit Go.Proofs.YtlcgmlfiggkppaaW.PrintWords Go.Proofs.YtlcgmlfiggkppaaW.PrintLast Go.Proofs.YtlcgmlfiggkppaaW.PrintMore
attribute [local go_sem] max2_int min2_int max_two min_two max_three min_three max_four min_four   -- for this text's walks alone
set_option linter.unusedVariables false
set_option linter.unusedSimpArgs false

/-! ### surmiseref08_Match: function 14 -/
def surmiseref08_Match.f (k : Nat) (a0 : ByteArray) (a1 : ByteArray) : Option (Bool) := (surmiseref08_Pattern.f k a0).bind fun t217 => (if t217 = true then ((surmiseref08_Stream.f k a1).bind fun t218 => (if t218 = true then ((surmiseref08_Parts.f k a0).bind fun t219 => ((surmiseref08_Parts.f k a1).bind fun t222 => ((surmiseref08_match.f k t219 t222).bind fun t225 => (some t225)))) else (some false))) else (some false))
theorem surmiseref08_Match.mono : ∀ a0 a1 k, LeO (surmiseref08_Match.f k a0 a1) (surmiseref08_Match.f (k + 1) a0 a1) := by
  intro a0 a1 k
  unfold surmiseref08_Match.f
  repeat' first
      | (with_reducible exact surmiseref08_Parts.mono _ _)
      | (with_reducible exact surmiseref08_Pattern.mono _ _)
      | (with_reducible exact surmiseref08_Stream.mono _ _)
      | (with_reducible exact surmiseref08_match.mono _ _ _)
      | (with_reducible exact LeO.refl _)
      | (with_reducible exact LeO.none _)
      | (with_reducible refine LeO.ite ?_ ?_)
      | (with_reducible refine LeO.bind ?_ (fun _ => ?_))
      | exact surmiseref08_Parts.mono _ _
      | exact surmiseref08_Pattern.mono _ _
      | exact surmiseref08_Stream.mono _ _
      | exact surmiseref08_match.mono _ _ _
      | exact LeO.none _
      | refine LeO.ite ?_ ?_
      | refine LeO.bind ?_ (fun _ => ?_)
set_option maxHeartbeats 8000000 in
set_option maxRecDepth 100000 in
theorem surmiseref08_Match.calls (k : Nat) (a0 : ByteArray) (a1 : ByteArray) (r : Bool) (w : World) (h : surmiseref08_Match.f k a0 a1 = some r) :
    Calls Try.prog 14 #[.string a0, .string a1] w fun e w' => e = .returned (.bool r) ∧ Below w.heap.size w w' := by
  have HB := Aside0.mk (Below.refl w.heap.size w)
  have H : ((surmiseref08_Pattern.f k a0).bind fun t217 => (if t217 = true then ((surmiseref08_Stream.f k a1).bind fun t218 => (if t218 = true then ((surmiseref08_Parts.f k a0).bind fun t219 => ((surmiseref08_Parts.f k a1).bind fun t222 => ((surmiseref08_match.f k t219 t222).bind fun t225 => (some t225)))) else (some false))) else (some false))) = some r := h
  clear h
  replace H := Option.bind_eq_some_iff.mp H
  obtain ⟨t217, A30, H⟩ := H
  replace H : (if t217 = true then ((surmiseref08_Stream.f k a1).bind fun t218 => (if t218 = true then ((surmiseref08_Parts.f k a0).bind fun t219 => ((surmiseref08_Parts.f k a1).bind fun t222 => ((surmiseref08_match.f k t219 t222).bind fun t225 => (some t225)))) else (some false))) else (some false)) = some r := H
  have A3 := Aside0.mk A30
  clear A30
  by_cases c4 : t217 = true
  · subst c4
    have H1 : ((surmiseref08_Stream.f k a1).bind fun t218 => (if t218 = true then ((surmiseref08_Parts.f k a0).bind fun t219 => ((surmiseref08_Parts.f k a1).bind fun t222 => ((surmiseref08_match.f k t219 t222).bind fun t225 => (some t225)))) else (some false))) = some r := by rw [if_pos rfl] at H; exact H
    clear H
    have H := H1
    clear H1
    replace H := Option.bind_eq_some_iff.mp H
    obtain ⟨t218, A50, H⟩ := H
    replace H : (if t218 = true then ((surmiseref08_Parts.f k a0).bind fun t219 => ((surmiseref08_Parts.f k a1).bind fun t222 => ((surmiseref08_match.f k t219 t222).bind fun t225 => (some t225)))) else (some false)) = some r := H
    have A5 := Aside0.mk A50
    clear A50
    by_cases c6 : t218 = true
    · subst c6
      have H1 : ((surmiseref08_Parts.f k a0).bind fun t219 => ((surmiseref08_Parts.f k a1).bind fun t222 => ((surmiseref08_match.f k t219 t222).bind fun t225 => (some t225)))) = some r := by rw [if_pos rfl] at H; exact H
      clear H
      have H := H1
      clear H1
      replace H := Option.bind_eq_some_iff.mp H
      obtain ⟨t219, A70, H⟩ := H
      replace H : ((surmiseref08_Parts.f k a1).bind fun t222 => ((surmiseref08_match.f k t219 t222).bind fun t225 => (some t225))) = some r := H
      have A7 := Aside0.mk A70
      clear A70
      replace H := Option.bind_eq_some_iff.mp H
      obtain ⟨t222, A80, H⟩ := H
      replace H : ((surmiseref08_match.f k t219 t222).bind fun t225 => (some t225)) = some r := H
      have A8 := Aside0.mk A80
      clear A80
      replace H := Option.bind_eq_some_iff.mp H
      obtain ⟨t225, A90, H⟩ := H
      replace H : (some t225) = some r := H
      have A9 := Aside0.mk A90
      clear A90
      obtain rfl := Option.some.inj H
      go_enter Try.func14, Try.ntmps14
      go_wp2_with (first | ((with_reducible refine gate_callee (f := 12) rfl ?_); refine goesL_ (some 6) rfl rfl Try.func12 (by kernel_rfl) rfl #[.string a0] rfl (by (try simp only [List.map_toArray, List.map_cons, List.map_nil]); first | done | rfl | (simp only [List.length_drop, List.length_take]; rfl)) ?_; (with_reducible refine (surmiseref08_Pattern.calls k a0 true _ A3.out).mono ?_); rintro e w10 ⟨rfl, hb⟩; refine ⟨_, rfl, ?_⟩; have n0_ := Aside0.mk (below_step (by repeat (first | (with_reducible first | exact HB.out | apply below_alloc | apply pw_below_drewN | apply below_drew1) | exact HB.out)) hb); clear HB; have HB := n0_; clear n0_; (try clear hb); (try clear hb2); (try clear hk); (try clear hi)) | (go_at_call 10; (with_reducible refine (surmiseref08_Stream.calls k a1 true _ A5.out).mono ?_); rintro e w11 ⟨rfl, hb⟩; have n0_ := Aside0.mk (below_step (by repeat (first | (with_reducible first | exact HB.out | apply below_alloc | apply pw_below_drewN | apply below_drew1) | exact HB.out)) hb); clear HB; have HB := n0_; clear n0_; (try clear hb); (try clear hb2); (try clear hk); (try clear hi)) | (go_at_call 26; (with_reducible refine (surmiseref08_Parts.calls k a0 t219 _ A7.out).mono ?_); rintro e w12 ⟨v220, rfl, ho0, hb⟩; have n0_ := Aside0.mk (Kd.R_lower ho0 (below_size (by repeat (first | (with_reducible first | exact HB.out | apply below_alloc | apply pw_below_drewN | apply below_drew1) | exact HB.out)))); have n1_ := Aside0.mk (below_step (by repeat (first | (with_reducible first | exact HB.out | apply below_alloc | apply pw_below_drewN | apply below_drew1) | exact HB.out)) hb); clear HB; have HO221 := n0_; have HB := n1_; clear n0_ n1_; (try clear hb); (try clear hb2); (try clear hk); (try clear hi); (try clear ho0)) | (go_at_call 26; (with_reducible refine (surmiseref08_Parts.calls k a1 t222 _ A8.out).mono ?_); rintro e w13 ⟨v223, rfl, ho0, hb⟩; have n0_ := Aside0.mk (Kd.R_elder' (by (with_reducible repeat (first | apply Kd.R_alloc | apply Kd.R_drewN | apply Kd.R_drew)); exact HO221.out) (Kd.R_base ho0) hb); have n1_ := Aside0.mk (Kd.R_lower (Kd.R_new' ho0 (Kd.R_lt (by (with_reducible repeat (first | apply Kd.R_alloc | apply Kd.R_drewN | apply Kd.R_drew)); exact HO221.out))) (below_size (by repeat (first | (with_reducible first | exact HB.out | apply below_alloc | apply pw_below_drewN | apply below_drew1) | exact HB.out)))); have n2_ := Aside0.mk (below_step (by repeat (first | (with_reducible first | exact HB.out | apply below_alloc | apply pw_below_drewN | apply below_drew1) | exact HB.out)) hb); clear HO221; clear HB; have HO221 := n0_; have HO224 := n1_; have HB := n2_; clear n0_ n1_ n2_; (try clear hb); (try clear hb2); (try clear hk); (try clear hi); (try clear ho0); obtain ⟨Ao14, co14, eo14⟩ := Kd.R_slice HO221.out; subst eo14; obtain ⟨Ao15, co15, eo15⟩ := Kd.R_slice HO224.out; subst eo15) | (go_at_call 33; (with_reducible refine (surmiseref08_match.calls k _ _ t219 _ _ t222 t225 _ ?side1 ?side2 ?side3 ?side4 A9.out).mono ?_); (case side1 => repeat (first | exact (Kd.R_reads' HO221.out).2.2 | (with_reducible refine Kd.C_alloc ?_ _) | (with_reducible refine Kd.C_drewN ?_ _) | (with_reducible refine Kd.C_drew ?_))); (case side2 => exact (Kd.R_reads' HO221.out).2.1); (case side3 => repeat (first | exact (Kd.R_reads' HO224.out).2.2 | (with_reducible refine Kd.C_alloc ?_ _) | (with_reducible refine Kd.C_drewN ?_ _) | (with_reducible refine Kd.C_drew ?_))); (case side4 => exact (Kd.R_reads' HO224.out).2.1); rintro e w16 ⟨rfl, hb⟩; have n0_ := Aside0.mk (Kd.R_below (by (with_reducible repeat (first | apply Kd.R_alloc | apply Kd.R_drewN | apply Kd.R_drew)); exact HO221.out) hb); have n1_ := Aside0.mk (Kd.R_below (by (with_reducible repeat (first | apply Kd.R_alloc | apply Kd.R_drewN | apply Kd.R_drew)); exact HO224.out) hb); have n2_ := Aside0.mk (below_step (by repeat (first | (with_reducible first | exact HB.out | apply below_alloc | apply pw_below_drewN | apply below_drew1) | exact HB.out)) hb); clear HO221; clear HO224; clear HB; have HO221 := n0_; have HO224 := n1_; have HB := n2_; clear n0_ n1_ n2_; (try clear hb); (try clear hb2); (try clear hk); (try clear hi)))
      go_ret
      exact ⟨by first | rfl | (simp [errW_none, errW_some] <;> rfl) | (simp [*, errW_none, errW_some] <;> rfl), by repeat (first | (with_reducible first | exact HB.out | apply below_alloc | apply pw_below_drewN | apply below_drew1) | exact HB.out)⟩
    · replace c6 := Bool.eq_false_iff.mpr c6
      subst c6
      have H1 : (some false) = some r := by rw [if_neg (show ¬ (false = true) by decide)] at H; exact H
      clear H
      have H := H1
      clear H1
      obtain rfl := Option.some.inj H
      go_enter Try.func14, Try.ntmps14
      go_wp2_with (first | ((with_reducible refine gate_callee (f := 12) rfl ?_); refine goesL_ (some 6) rfl rfl Try.func12 (by kernel_rfl) rfl #[.string a0] rfl (by (try simp only [List.map_toArray, List.map_cons, List.map_nil]); first | done | rfl | (simp only [List.length_drop, List.length_take]; rfl)) ?_; (with_reducible refine (surmiseref08_Pattern.calls k a0 true _ A3.out).mono ?_); rintro e w17 ⟨rfl, hb⟩; refine ⟨_, rfl, ?_⟩; have n0_ := Aside0.mk (below_step (by repeat (first | (with_reducible first | exact HB.out | apply below_alloc | apply pw_below_drewN | apply below_drew1) | exact HB.out)) hb); clear HB; have HB := n0_; clear n0_; (try clear hb); (try clear hb2); (try clear hk); (try clear hi)) | (go_at_call 10; (with_reducible refine (surmiseref08_Stream.calls k a1 false _ A5.out).mono ?_); rintro e w18 ⟨rfl, hb⟩; have n0_ := Aside0.mk (below_step (by repeat (first | (with_reducible first | exact HB.out | apply below_alloc | apply pw_below_drewN | apply below_drew1) | exact HB.out)) hb); clear HB; have HB := n0_; clear n0_; (try clear hb); (try clear hb2); (try clear hk); (try clear hi)))
      go_ret
      exact ⟨by first | rfl | (simp [errW_none, errW_some] <;> rfl) | (simp [*, errW_none, errW_some] <;> rfl), by repeat (first | (with_reducible first | exact HB.out | apply below_alloc | apply pw_below_drewN | apply below_drew1) | exact HB.out)⟩
  · replace c4 := Bool.eq_false_iff.mpr c4
    subst c4
    have H1 : (some false) = some r := by rw [if_neg (show ¬ (false = true) by decide)] at H; exact H
    clear H
    have H := H1
    clear H1
    obtain rfl := Option.some.inj H
    go_enter Try.func14, Try.ntmps14
    go_wp2_with (first | ((with_reducible refine gate_callee (f := 12) rfl ?_); refine goesL_ (some 6) rfl rfl Try.func12 (by kernel_rfl) rfl #[.string a0] rfl (by (try simp only [List.map_toArray, List.map_cons, List.map_nil]); first | done | rfl | (simp only [List.length_drop, List.length_take]; rfl)) ?_; (with_reducible refine (surmiseref08_Pattern.calls k a0 false _ A3.out).mono ?_); rintro e w19 ⟨rfl, hb⟩; refine ⟨_, rfl, ?_⟩; have n0_ := Aside0.mk (below_step (by repeat (first | (with_reducible first | exact HB.out | apply below_alloc | apply pw_below_drewN | apply below_drew1) | exact HB.out)) hb); clear HB; have HB := n0_; clear n0_; (try clear hb); (try clear hb2); (try clear hk); (try clear hi)))
    go_ret
    exact ⟨by first | rfl | (simp [errW_none, errW_some] <;> rfl) | (simp [*, errW_none, errW_some] <;> rfl), by repeat (first | (with_reducible first | exact HB.out | apply below_alloc | apply pw_below_drewN | apply below_drew1) | exact HB.out)⟩

end Go.Proofs.Ytlcgmlfiggkppaa.Q
