/- Texts of this session laid together (merge.py): YtlcgmlfiggkppaaQf6, YtlcgmlfiggkppaaHBase, YtlcgmlfiggkppaaHBytes, YtlcgmlfiggkppaaHParts, YtlcgmlfiggkppaaHNames, YtlcgmlfiggkppaaHPats, YtlcgmlfiggkppaaHMatch, YtlcgmlfiggkppaaHAgainst. -/
import Derived.Lib.Strings
import Derived.Test.YtlcgmlfiggkppaaTPatternWholed
-- By px.py, a program of this session that drives the kit's printer: laid out of the translation; Lean checks it.
namespace Go.Proofs.Ytlcgmlfiggkppaa.Q
open Go.RowKit Go.Proofs.YtlcgmlfiggkppaaW.PrintWords Go.Proofs.YtlcgmlfiggkppaaW.PrintLast Go.Proofs.YtlcgmlfiggkppaaW.PrintMore
attribute [local go_sem] max2_int min2_int max_two min_two max_three min_three max_four min_four   -- for this text's walks alone
set_option linter.unusedVariables false
set_option linter.unusedSimpArgs false

/-! ### surmiselaw08_PatternWhole: function 6 -/
mutual
def surmiselaw08_PatternWhole.j0 : Nat → ByteArray → ByteArray → Bool → Option (Bool)
  | 0, _, _, _ => none
  | k + 1, x0, x1, x25 => if x25 = true then ((surmiselaw08_awake.f k).bind fun t308 => (some t308)) else ((surmiselaw08_other.f k x0 x1).bind fun t309 => (if t309.toList = ([] : List UInt8) then (some true) else (surmiselaw08_PatternWhole.l0 k x0 x1 t309 false 0)))
def surmiselaw08_PatternWhole.l0 : Nat → ByteArray → ByteArray → ByteArray → Bool → Int → Option (Bool)
  | 0, _, _, _, _, _ => none
  | k + 1, x0, x1, x5, x6, x7 => if x7 < 5 then ((surmiselaw08_one.f k x1 x5 x7).bind fun t310 => ((surmiseref08_Stream.f k t310).bind fun t311 => (if t311 = true then ((pattern_Match.f k x1 t310).bind fun t312 => (if t312 = true then ((pattern_Match.f k x0 t310).bind fun t313 => (if t313 = true then (surmiselaw08_PatternWhole.l0 k x0 x1 x5 x6 (wrap64 (x7 + 1))) else (some true))) else (some false))) else (surmiselaw08_PatternWhole.l0 k x0 x1 x5 true (wrap64 (x7 + 1)))))) else (some x6)
end
def surmiselaw08_PatternWhole.f (k : Nat) (a0 : ByteArray) (a1 : ByteArray) : Option (Bool) := (surmiselaw08_awake.f k).bind fun t304 => (if t304 = true then ((surmiseref08_Pattern.f k a0).bind fun t305 => (if t305 = true then ((surmiseref08_Pattern.f k a1).bind fun t306 => (if t306 = true then ((pattern_Covers.f k a0 a1).bind fun t307 => (surmiselaw08_PatternWhole.j0 k a0 a1 t307)) else (surmiselaw08_PatternWhole.j0 k a0 a1 true))) else (surmiselaw08_PatternWhole.j0 k a0 a1 true))) else (surmiselaw08_PatternWhole.j0 k a0 a1 true))
theorem surmiselaw08_PatternWhole.mono_l : ∀ k, (∀ y0 y1 y2, LeO (surmiselaw08_PatternWhole.j0 k y0 y1 y2) (surmiselaw08_PatternWhole.j0 (k + 1) y0 y1 y2)) ∧ (∀ y0 y1 y2 y3 y4, LeO (surmiselaw08_PatternWhole.l0 k y0 y1 y2 y3 y4) (surmiselaw08_PatternWhole.l0 (k + 1) y0 y1 y2 y3 y4))
  | 0 => ⟨fun _ _ _ r h => by simp [surmiselaw08_PatternWhole.j0] at h, fun _ _ _ _ _ r h => by simp [surmiselaw08_PatternWhole.l0] at h⟩
  | k + 1 => by
    obtain ⟨ih0, ih1⟩ := surmiselaw08_PatternWhole.mono_l k
    refine ⟨?_, ?_⟩
    · intro y0 y1 y2
      unfold surmiselaw08_PatternWhole.j0
      repeat' first
      | (with_reducible exact ih0 _ _ _)
      | (with_reducible exact ih1 _ _ _ _ _)
      | (with_reducible exact pattern_Covers.mono _ _ _)
      | (with_reducible exact pattern_Match.mono _ _ _)
      | (with_reducible exact surmiselaw08_awake.mono _)
      | (with_reducible exact surmiselaw08_one.mono _ _ _ _)
      | (with_reducible exact surmiselaw08_other.mono _ _ _)
      | (with_reducible exact surmiseref08_Pattern.mono _ _)
      | (with_reducible exact surmiseref08_Stream.mono _ _)
      | (with_reducible exact LeO.refl _)
      | (with_reducible exact LeO.none _)
      | (with_reducible refine LeO.ite ?_ ?_)
      | (with_reducible refine LeO.bind ?_ (fun _ => ?_))
      | exact ih0 _ _ _
      | exact ih1 _ _ _ _ _
      | exact pattern_Covers.mono _ _ _
      | exact pattern_Match.mono _ _ _
      | exact surmiselaw08_awake.mono _
      | exact surmiselaw08_one.mono _ _ _ _
      | exact surmiselaw08_other.mono _ _ _
      | exact surmiseref08_Pattern.mono _ _
      | exact surmiseref08_Stream.mono _ _
      | exact LeO.none _
      | refine LeO.ite ?_ ?_
      | refine LeO.bind ?_ (fun _ => ?_)
    · intro y0 y1 y2 y3 y4
      unfold surmiselaw08_PatternWhole.l0
      repeat' first
      | (with_reducible exact ih0 _ _ _)
      | (with_reducible exact ih1 _ _ _ _ _)
      | (with_reducible exact pattern_Covers.mono _ _ _)
      | (with_reducible exact pattern_Match.mono _ _ _)
      | (with_reducible exact surmiselaw08_awake.mono _)
      | (with_reducible exact surmiselaw08_one.mono _ _ _ _)
      | (with_reducible exact surmiselaw08_other.mono _ _ _)
      | (with_reducible exact surmiseref08_Pattern.mono _ _)
      | (with_reducible exact surmiseref08_Stream.mono _ _)
      | (with_reducible exact LeO.refl _)
      | (with_reducible exact LeO.none _)
      | (with_reducible refine LeO.ite ?_ ?_)
      | (with_reducible refine LeO.bind ?_ (fun _ => ?_))
      | exact ih0 _ _ _
      | exact ih1 _ _ _ _ _
      | exact pattern_Covers.mono _ _ _
      | exact pattern_Match.mono _ _ _
      | exact surmiselaw08_awake.mono _
      | exact surmiselaw08_one.mono _ _ _ _
      | exact surmiselaw08_other.mono _ _ _
      | exact surmiseref08_Pattern.mono _ _
      | exact surmiseref08_Stream.mono _ _
      | exact LeO.none _
      | refine LeO.ite ?_ ?_
      | refine LeO.bind ?_ (fun _ => ?_)
theorem surmiselaw08_PatternWhole.mono : ∀ a0 a1 k, LeO (surmiselaw08_PatternWhole.f k a0 a1) (surmiselaw08_PatternWhole.f (k + 1) a0 a1) := by
  intro a0 a1 k
  obtain ⟨ih0, ih1⟩ := surmiselaw08_PatternWhole.mono_l k
  unfold surmiselaw08_PatternWhole.f
  repeat' first
      | (with_reducible exact ih0 _ _ _)
      | (with_reducible exact ih1 _ _ _ _ _)
      | (with_reducible exact pattern_Covers.mono _ _ _)
      | (with_reducible exact pattern_Match.mono _ _ _)
      | (with_reducible exact surmiselaw08_awake.mono _)
      | (with_reducible exact surmiselaw08_one.mono _ _ _ _)
      | (with_reducible exact surmiselaw08_other.mono _ _ _)
      | (with_reducible exact surmiseref08_Pattern.mono _ _)
      | (with_reducible exact surmiseref08_Stream.mono _ _)
      | (with_reducible exact LeO.refl _)
      | (with_reducible exact LeO.none _)
      | (with_reducible refine LeO.ite ?_ ?_)
      | (with_reducible refine LeO.bind ?_ (fun _ => ?_))
      | exact ih0 _ _ _
      | exact ih1 _ _ _ _ _
      | exact pattern_Covers.mono _ _ _
      | exact pattern_Match.mono _ _ _
      | exact surmiselaw08_awake.mono _
      | exact surmiselaw08_one.mono _ _ _ _
      | exact surmiselaw08_other.mono _ _ _
      | exact surmiseref08_Pattern.mono _ _
      | exact surmiseref08_Stream.mono _ _
      | exact LeO.none _
      | refine LeO.ite ?_ ?_
      | refine LeO.bind ?_ (fun _ => ?_)
set_option maxHeartbeats 8000000 in
set_option maxRecDepth 100000 in
theorem surmiselaw08_PatternWhole.calls (k : Nat) (a0 : ByteArray) (a1 : ByteArray) (r : Bool) (w : World) (h : surmiselaw08_PatternWhole.f k a0 a1 = some r) :
    Calls Try.prog 6 #[.string a0, .string a1] w fun e w' => e = .returned (.bool r) ∧ Below w.heap.size w w' := by
  have HB := Aside0.mk (Below.refl w.heap.size w)
  have H : ((surmiselaw08_awake.f k).bind fun t304 => (if t304 = true then ((surmiseref08_Pattern.f k a0).bind fun t305 => (if t305 = true then ((surmiseref08_Pattern.f k a1).bind fun t306 => (if t306 = true then ((pattern_Covers.f k a0 a1).bind fun t307 => (surmiselaw08_PatternWhole.j0 k a0 a1 t307)) else (surmiselaw08_PatternWhole.j0 k a0 a1 true))) else (surmiselaw08_PatternWhole.j0 k a0 a1 true))) else (surmiselaw08_PatternWhole.j0 k a0 a1 true))) = some r := h
  clear h
  have HC3 := Aside0.mk H
  clear H
  go_enter Try.func6, Try.ntmps6
  go_upto_region 1 with (fail)
  go_cut [25] (fun v25 wc => ∃ (kq : Nat) (x25_2 : Bool), v25 = .bool x25_2 ∧ Aside0 (surmiselaw08_PatternWhole.j0 kq a0 a1 x25_2 = some r) ∧ Aside0 (kq ≤ k) ∧ Aside0 (Below w.heap.size w wc))
  case first =>
    have H := HC3.out
    clear HC3
    replace H := Option.bind_eq_some_iff.mp H
    obtain ⟨t304, A40, H⟩ := H
    replace H : (if t304 = true then ((surmiseref08_Pattern.f k a0).bind fun t305 => (if t305 = true then ((surmiseref08_Pattern.f k a1).bind fun t306 => (if t306 = true then ((pattern_Covers.f k a0 a1).bind fun t307 => (surmiselaw08_PatternWhole.j0 k a0 a1 t307)) else (surmiselaw08_PatternWhole.j0 k a0 a1 true))) else (surmiselaw08_PatternWhole.j0 k a0 a1 true))) else (surmiselaw08_PatternWhole.j0 k a0 a1 true)) = some r := H
    have A4 := Aside0.mk A40
    clear A40
    by_cases c5 : t304 = true
    · subst c5
      have H1 : ((surmiseref08_Pattern.f k a0).bind fun t305 => (if t305 = true then ((surmiseref08_Pattern.f k a1).bind fun t306 => (if t306 = true then ((pattern_Covers.f k a0 a1).bind fun t307 => (surmiselaw08_PatternWhole.j0 k a0 a1 t307)) else (surmiselaw08_PatternWhole.j0 k a0 a1 true))) else (surmiselaw08_PatternWhole.j0 k a0 a1 true))) = some r := by rw [if_pos rfl] at H; exact H
      clear H
      have H := H1
      clear H1
      replace H := Option.bind_eq_some_iff.mp H
      obtain ⟨t305, A60, H⟩ := H
      replace H : (if t305 = true then ((surmiseref08_Pattern.f k a1).bind fun t306 => (if t306 = true then ((pattern_Covers.f k a0 a1).bind fun t307 => (surmiselaw08_PatternWhole.j0 k a0 a1 t307)) else (surmiselaw08_PatternWhole.j0 k a0 a1 true))) else (surmiselaw08_PatternWhole.j0 k a0 a1 true)) = some r := H
      have A6 := Aside0.mk A60
      clear A60
      by_cases c7 : t305 = true
      · subst c7
        have H1 : ((surmiseref08_Pattern.f k a1).bind fun t306 => (if t306 = true then ((pattern_Covers.f k a0 a1).bind fun t307 => (surmiselaw08_PatternWhole.j0 k a0 a1 t307)) else (surmiselaw08_PatternWhole.j0 k a0 a1 true))) = some r := by rw [if_pos rfl] at H; exact H
        clear H
        have H := H1
        clear H1
        replace H := Option.bind_eq_some_iff.mp H
        obtain ⟨t306, A80, H⟩ := H
        replace H : (if t306 = true then ((pattern_Covers.f k a0 a1).bind fun t307 => (surmiselaw08_PatternWhole.j0 k a0 a1 t307)) else (surmiselaw08_PatternWhole.j0 k a0 a1 true)) = some r := H
        have A8 := Aside0.mk A80
        clear A80
        by_cases c9 : t306 = true
        · subst c9
          have H1 : ((pattern_Covers.f k a0 a1).bind fun t307 => (surmiselaw08_PatternWhole.j0 k a0 a1 t307)) = some r := by rw [if_pos rfl] at H; exact H
          clear H
          have H := H1
          clear H1
          replace H := Option.bind_eq_some_iff.mp H
          obtain ⟨t307, A100, H⟩ := H
          replace H : (surmiselaw08_PatternWhole.j0 k a0 a1 t307) = some r := H
          have A10 := Aside0.mk A100
          clear A100
          have H' := Aside0.mk H
          clear H
          go_wp2_with (first | ((with_reducible refine gate_callee (f := 8) rfl ?_); refine goesL_ (some 9) rfl rfl Try.func8 (by kernel_rfl) rfl #[] rfl (by (try simp only [List.map_toArray, List.map_cons, List.map_nil]); first | done | rfl | (simp only [List.length_drop, List.length_take]; rfl)) ?_; (with_reducible refine (surmiselaw08_awake.calls k  true _ A4.out).mono ?_); rintro e w11 ⟨rfl, hb⟩; refine ⟨_, rfl, ?_⟩; have n0_ := Aside0.mk (below_step (by repeat (first | (with_reducible first | exact HB.out | apply below_alloc | apply pw_below_drewN | apply below_drew1) | exact HB.out)) hb); clear HB; have HB := n0_; clear n0_; (try clear hb); (try clear hb2); (try clear hk); (try clear hi)) | (go_at_call 12; (with_reducible refine (surmiseref08_Pattern.calls k a0 true _ A6.out).mono ?_); rintro e w12 ⟨rfl, hb⟩; have n0_ := Aside0.mk (below_step (by repeat (first | (with_reducible first | exact HB.out | apply below_alloc | apply pw_below_drewN | apply below_drew1) | exact HB.out)) hb); clear HB; have HB := n0_; clear n0_; (try clear hb); (try clear hb2); (try clear hk); (try clear hi)) | (go_at_call 12; (with_reducible refine (surmiseref08_Pattern.calls k a1 true _ A8.out).mono ?_); rintro e w13 ⟨rfl, hb⟩; have n0_ := Aside0.mk (below_step (by repeat (first | (with_reducible first | exact HB.out | apply below_alloc | apply pw_below_drewN | apply below_drew1) | exact HB.out)) hb); clear HB; have HB := n0_; clear n0_; (try clear hb); (try clear hb2); (try clear hk); (try clear hi)) | (go_at_call 15; (with_reducible refine (pattern_Covers.calls k a0 a1 t307 _ A10.out).mono ?_); rintro e w14 ⟨rfl, hb⟩; have n0_ := Aside0.mk (below_step (by repeat (first | (with_reducible first | exact HB.out | apply below_alloc | apply pw_below_drewN | apply below_drew1) | exact HB.out)) hb); clear HB; have HB := n0_; clear n0_; (try clear hb); (try clear hb2); (try clear hk); (try clear hi)))
          go_meet
          case rel => exact ⟨_, (t307), (by first | rfl | (simp; done) | (simp [*]; done)), H', ⟨by first | omega | exact Nat.le_refl _⟩, ⟨by repeat (first | (with_reducible first | exact HB.out | apply below_alloc | apply pw_below_drewN | apply below_drew1) | exact HB.out)⟩⟩
        · replace c9 := Bool.eq_false_iff.mpr c9
          subst c9
          have H1 : (surmiselaw08_PatternWhole.j0 k a0 a1 true) = some r := by rw [if_neg (show ¬ (false = true) by decide)] at H; exact H
          clear H
          have H := H1
          clear H1
          have H' := Aside0.mk H
          clear H
          go_wp2_with (first | ((with_reducible refine gate_callee (f := 8) rfl ?_); refine goesL_ (some 9) rfl rfl Try.func8 (by kernel_rfl) rfl #[] rfl (by (try simp only [List.map_toArray, List.map_cons, List.map_nil]); first | done | rfl | (simp only [List.length_drop, List.length_take]; rfl)) ?_; (with_reducible refine (surmiselaw08_awake.calls k  true _ A4.out).mono ?_); rintro e w15 ⟨rfl, hb⟩; refine ⟨_, rfl, ?_⟩; have n0_ := Aside0.mk (below_step (by repeat (first | (with_reducible first | exact HB.out | apply below_alloc | apply pw_below_drewN | apply below_drew1) | exact HB.out)) hb); clear HB; have HB := n0_; clear n0_; (try clear hb); (try clear hb2); (try clear hk); (try clear hi)) | (go_at_call 12; (with_reducible refine (surmiseref08_Pattern.calls k a0 true _ A6.out).mono ?_); rintro e w16 ⟨rfl, hb⟩; have n0_ := Aside0.mk (below_step (by repeat (first | (with_reducible first | exact HB.out | apply below_alloc | apply pw_below_drewN | apply below_drew1) | exact HB.out)) hb); clear HB; have HB := n0_; clear n0_; (try clear hb); (try clear hb2); (try clear hk); (try clear hi)) | (go_at_call 12; (with_reducible refine (surmiseref08_Pattern.calls k a1 false _ A8.out).mono ?_); rintro e w17 ⟨rfl, hb⟩; have n0_ := Aside0.mk (below_step (by repeat (first | (with_reducible first | exact HB.out | apply below_alloc | apply pw_below_drewN | apply below_drew1) | exact HB.out)) hb); clear HB; have HB := n0_; clear n0_; (try clear hb); (try clear hb2); (try clear hk); (try clear hi)))
          go_meet
          case rel => exact ⟨_, (true), (by first | rfl | (simp; done) | (simp [*]; done)), H', ⟨by first | omega | exact Nat.le_refl _⟩, ⟨by repeat (first | (with_reducible first | exact HB.out | apply below_alloc | apply pw_below_drewN | apply below_drew1) | exact HB.out)⟩⟩
      · replace c7 := Bool.eq_false_iff.mpr c7
        subst c7
        have H1 : (surmiselaw08_PatternWhole.j0 k a0 a1 true) = some r := by rw [if_neg (show ¬ (false = true) by decide)] at H; exact H
        clear H
        have H := H1
        clear H1
        have H' := Aside0.mk H
        clear H
        go_wp2_with (first | ((with_reducible refine gate_callee (f := 8) rfl ?_); refine goesL_ (some 9) rfl rfl Try.func8 (by kernel_rfl) rfl #[] rfl (by (try simp only [List.map_toArray, List.map_cons, List.map_nil]); first | done | rfl | (simp only [List.length_drop, List.length_take]; rfl)) ?_; (with_reducible refine (surmiselaw08_awake.calls k  true _ A4.out).mono ?_); rintro e w18 ⟨rfl, hb⟩; refine ⟨_, rfl, ?_⟩; have n0_ := Aside0.mk (below_step (by repeat (first | (with_reducible first | exact HB.out | apply below_alloc | apply pw_below_drewN | apply below_drew1) | exact HB.out)) hb); clear HB; have HB := n0_; clear n0_; (try clear hb); (try clear hb2); (try clear hk); (try clear hi)) | (go_at_call 12; (with_reducible refine (surmiseref08_Pattern.calls k a0 false _ A6.out).mono ?_); rintro e w19 ⟨rfl, hb⟩; have n0_ := Aside0.mk (below_step (by repeat (first | (with_reducible first | exact HB.out | apply below_alloc | apply pw_below_drewN | apply below_drew1) | exact HB.out)) hb); clear HB; have HB := n0_; clear n0_; (try clear hb); (try clear hb2); (try clear hk); (try clear hi)))
        go_meet
        case rel => exact ⟨_, (true), (by first | rfl | (simp; done) | (simp [*]; done)), H', ⟨by first | omega | exact Nat.le_refl _⟩, ⟨by repeat (first | (with_reducible first | exact HB.out | apply below_alloc | apply pw_below_drewN | apply below_drew1) | exact HB.out)⟩⟩
    · replace c5 := Bool.eq_false_iff.mpr c5
      subst c5
      have H1 : (surmiselaw08_PatternWhole.j0 k a0 a1 true) = some r := by rw [if_neg (show ¬ (false = true) by decide)] at H; exact H
      clear H
      have H := H1
      clear H1
      have H' := Aside0.mk H
      clear H
      go_wp2_with (first | ((with_reducible refine gate_callee (f := 8) rfl ?_); refine goesL_ (some 9) rfl rfl Try.func8 (by kernel_rfl) rfl #[] rfl (by (try simp only [List.map_toArray, List.map_cons, List.map_nil]); first | done | rfl | (simp only [List.length_drop, List.length_take]; rfl)) ?_; (with_reducible refine (surmiselaw08_awake.calls k  false _ A4.out).mono ?_); rintro e w20 ⟨rfl, hb⟩; refine ⟨_, rfl, ?_⟩; have n0_ := Aside0.mk (below_step (by repeat (first | (with_reducible first | exact HB.out | apply below_alloc | apply pw_below_drewN | apply below_drew1) | exact HB.out)) hb); clear HB; have HB := n0_; clear n0_; (try clear hb); (try clear hb2); (try clear hk); (try clear hi)))
      go_meet
      case rel => exact ⟨_, (true), (by first | rfl | (simp; done) | (simp [*]; done)), H', ⟨by first | omega | exact Nat.le_refl _⟩, ⟨by repeat (first | (with_reducible first | exact HB.out | apply below_alloc | apply pw_below_drewN | apply below_drew1) | exact HB.out)⟩⟩
  case rest =>
    clear HC3
    try clear p2
    try clear c5
    try clear c6
    try clear c7
    try clear c8
    try clear c9
    obtain ⟨kq, x25_2, rfl, HA, HJ2, HB⟩ := hcut
    cases kq with
    | zero => exact absurd HA.out (by simp [surmiselaw08_PatternWhole.j0])
    | succ kj2 =>
      have H := HA.out
      clear HA
      simp only [surmiselaw08_PatternWhole.j0] at H
      by_cases c21 : x25_2 = true
      · subst c21
        have H1 : ((surmiselaw08_awake.f kj2).bind fun t308 => (some t308)) = some r := by rw [if_pos rfl] at H; exact H
        clear H
        have H := H1
        clear H1
        replace H := Option.bind_eq_some_iff.mp H
        obtain ⟨t308, A220, H⟩ := H
        replace H : (some t308) = some r := H
        have A22 := Aside0.mk A220
        clear A220
        obtain rfl := Option.some.inj H
        go_wp2_with (first | ((with_reducible refine gate_callee (f := 8) rfl ?_); refine goesL_ (some 26) rfl rfl Try.func8 (by kernel_rfl) rfl #[] rfl (by (try simp only [List.map_toArray, List.map_cons, List.map_nil]); first | done | rfl | (simp only [List.length_drop, List.length_take]; rfl)) ?_; (with_reducible refine (surmiselaw08_awake.calls kj2  t308 _ A22.out).mono ?_); rintro e w23 ⟨rfl, hb⟩; refine ⟨_, rfl, ?_⟩; have n0_ := Aside0.mk (below_step (by repeat (first | (with_reducible first | exact HB.out | apply below_alloc | apply pw_below_drewN | apply below_drew1) | exact HB.out)) hb); clear HB; have HB := n0_; clear n0_; (try clear hb); (try clear hb2); (try clear hk); (try clear hi)))
        go_ret
        exact ⟨by first | rfl | (simp [errW_none, errW_some] <;> rfl) | (simp [*, errW_none, errW_some] <;> rfl), by repeat (first | (with_reducible first | exact HB.out | apply below_alloc | apply pw_below_drewN | apply below_drew1) | exact HB.out)⟩
      · replace c21 := Bool.eq_false_iff.mpr c21
        subst c21
        have H1 : ((surmiselaw08_other.f kj2 a0 a1).bind fun t309 => (if t309.toList = ([] : List UInt8) then (some true) else (surmiselaw08_PatternWhole.l0 kj2 a0 a1 t309 false 0))) = some r := by rw [if_neg (show ¬ (false = true) by decide)] at H; exact H
        clear H
        have H := H1
        clear H1
        replace H := Option.bind_eq_some_iff.mp H
        obtain ⟨t309, A240, H⟩ := H
        replace H : (if t309.toList = ([] : List UInt8) then (some true) else (surmiselaw08_PatternWhole.l0 kj2 a0 a1 t309 false 0)) = some r := H
        have A24 := Aside0.mk A240
        clear A240
        by_cases c25 : t309.toList = ([] : List UInt8)
        · rw [if_pos c25] at H
          have c25b0 : (t309.toList == ([] : List UInt8)) = true := beq_iff_eq.mpr c25
          have c25b1 : (t309.toList != ([] : List UInt8)) = false := bne_eq_false_iff_eq.mpr c25
          clear c25
          obtain rfl := Option.some.inj H
          go_wp2_with (first | ((with_reducible refine gate_callee (f := 19) rfl ?_); refine goesL_ (some 29) rfl rfl Try.func19 (by kernel_rfl) rfl #[.string a0, .string a1] rfl (by (try simp only [List.map_toArray, List.map_cons, List.map_nil]); first | done | rfl | (simp only [List.length_drop, List.length_take]; rfl)) ?_; (with_reducible refine (surmiselaw08_other.calls kj2 a0 a1 t309 _ A24.out).mono ?_); rintro e w26 ⟨rfl, hb⟩; refine ⟨_, rfl, ?_⟩; have n0_ := Aside0.mk (below_step (by repeat (first | (with_reducible first | exact HB.out | apply below_alloc | apply pw_below_drewN | apply below_drew1) | exact HB.out)) hb); clear HB; have HB := n0_; clear n0_; (try clear hb); (try clear hb2); (try clear hk); (try clear hi)))
          go_ret
          exact ⟨by first | rfl | (simp [errW_none, errW_some] <;> rfl) | (simp [*, errW_none, errW_some] <;> rfl), by repeat (first | (with_reducible first | exact HB.out | apply below_alloc | apply pw_below_drewN | apply below_drew1) | exact HB.out)⟩
        · rw [if_neg c25] at H
          have c25b0 : (t309.toList == ([] : List UInt8)) = false := beq_eq_false_iff_ne.mpr c25
          have c25b1 : (t309.toList != ([] : List UInt8)) = true := bne_iff_ne.mpr c25
          have H' := Aside0.mk H
          clear H
          go_wp2_with (first | ((with_reducible refine gate_callee (f := 19) rfl ?_); refine goesL_ (some 29) rfl rfl Try.func19 (by kernel_rfl) rfl #[.string a0, .string a1] rfl (by (try simp only [List.map_toArray, List.map_cons, List.map_nil]); first | done | rfl | (simp only [List.length_drop, List.length_take]; rfl)) ?_; (with_reducible refine (surmiselaw08_other.calls kj2 a0 a1 t309 _ A24.out).mono ?_); rintro e w27 ⟨rfl, hb⟩; refine ⟨_, rfl, ?_⟩; have n0_ := Aside0.mk (below_step (by repeat (first | (with_reducible first | exact HB.out | apply below_alloc | apply pw_below_drewN | apply below_drew1) | exact HB.out)) hb); clear HB; have HB := n0_; clear n0_; (try clear hb); (try clear hb2); (try clear hk); (try clear hi)))
          go_loopg [6, 7] kj2 (fun kq v6 v7 w' => ∃ (x6_2 : Bool) (x7_2 : Int), v6 = .bool x6_2 ∧ v7 = .int .i64 x7_2 ∧ Aside0 (surmiselaw08_PatternWhole.l0 kq a0 a1 t309 x6_2 x7_2 = some r) ∧ Aside0 (kq ≤ kj2) ∧ Aside0 (Below w.heap.size w w'))
          case atStart => exact ⟨(false), (0), (by first | rfl | (simp; done) | (simp [*]; done)), (by first | rfl | (simp; done) | (simp [*]; done)), H', ⟨Nat.le_refl _⟩, ⟨by repeat (first | (with_reducible first | exact HB.out | apply below_alloc | apply pw_below_drewN | apply below_drew1) | exact HB.out)⟩⟩
          case round =>
            clear H'
            try clear c1
            try clear c2
            try clear p2
            try clear c5
            try clear c6
            try clear c7
            try clear c8
            try clear c9
            try clear c19
            try clear c21
            try clear c25
            try clear c25b0
            try clear c25b1
            try clear p2
            obtain ⟨x6_2, x7_2, rfl, rfl, HA, HK2, HB⟩ := hrel
            cases gk with
            | zero => exact absurd HA.out (by simp [surmiselaw08_PatternWhole.l0])
            | succ k2 =>
              have H := HA.out
              clear HA
              simp only [surmiselaw08_PatternWhole.l0] at H
              by_cases c28 : x7_2 < 5
              · rw [if_pos c28] at H
                have c28b0 : decide (x7_2 < 5) = true := decide_eq_true c28
                clear c28
                replace H := Option.bind_eq_some_iff.mp H
                obtain ⟨t310, A290, H⟩ := H
                replace H : ((surmiseref08_Stream.f k2 t310).bind fun t311 => (if t311 = true then ((pattern_Match.f k2 a1 t310).bind fun t312 => (if t312 = true then ((pattern_Match.f k2 a0 t310).bind fun t313 => (if t313 = true then (surmiselaw08_PatternWhole.l0 k2 a0 a1 t309 x6_2 (wrap64 (x7_2 + 1))) else (some true))) else (some false))) else (surmiselaw08_PatternWhole.l0 k2 a0 a1 t309 true (wrap64 (x7_2 + 1))))) = some r := H
                have A29 := Aside0.mk A290
                clear A290
                replace H := Option.bind_eq_some_iff.mp H
                obtain ⟨t311, A300, H⟩ := H
                replace H : (if t311 = true then ((pattern_Match.f k2 a1 t310).bind fun t312 => (if t312 = true then ((pattern_Match.f k2 a0 t310).bind fun t313 => (if t313 = true then (surmiselaw08_PatternWhole.l0 k2 a0 a1 t309 x6_2 (wrap64 (x7_2 + 1))) else (some true))) else (some false))) else (surmiselaw08_PatternWhole.l0 k2 a0 a1 t309 true (wrap64 (x7_2 + 1)))) = some r := H
                have A30 := Aside0.mk A300
                clear A300
                by_cases c31 : t311 = true
                · subst c31
                  have H1 : ((pattern_Match.f k2 a1 t310).bind fun t312 => (if t312 = true then ((pattern_Match.f k2 a0 t310).bind fun t313 => (if t313 = true then (surmiselaw08_PatternWhole.l0 k2 a0 a1 t309 x6_2 (wrap64 (x7_2 + 1))) else (some true))) else (some false))) = some r := by rw [if_pos rfl] at H; exact H
                  clear H
                  have H := H1
                  clear H1
                  replace H := Option.bind_eq_some_iff.mp H
                  obtain ⟨t312, A320, H⟩ := H
                  replace H : (if t312 = true then ((pattern_Match.f k2 a0 t310).bind fun t313 => (if t313 = true then (surmiselaw08_PatternWhole.l0 k2 a0 a1 t309 x6_2 (wrap64 (x7_2 + 1))) else (some true))) else (some false)) = some r := H
                  have A32 := Aside0.mk A320
                  clear A320
                  by_cases c33 : t312 = true
                  · subst c33
                    have H1 : ((pattern_Match.f k2 a0 t310).bind fun t313 => (if t313 = true then (surmiselaw08_PatternWhole.l0 k2 a0 a1 t309 x6_2 (wrap64 (x7_2 + 1))) else (some true))) = some r := by rw [if_pos rfl] at H; exact H
                    clear H
                    have H := H1
                    clear H1
                    replace H := Option.bind_eq_some_iff.mp H
                    obtain ⟨t313, A340, H⟩ := H
                    replace H : (if t313 = true then (surmiselaw08_PatternWhole.l0 k2 a0 a1 t309 x6_2 (wrap64 (x7_2 + 1))) else (some true)) = some r := H
                    have A34 := Aside0.mk A340
                    clear A340
                    by_cases c35 : t313 = true
                    · subst c35
                      have H1 : (surmiselaw08_PatternWhole.l0 k2 a0 a1 t309 x6_2 (wrap64 (x7_2 + 1))) = some r := by rw [if_pos rfl] at H; exact H
                      clear H
                      have H := H1
                      clear H1
                      have H' := Aside0.mk H
                      clear H
                      go_wp2_with (first | ((with_reducible refine gate_callee (f := 20) rfl ?_); refine goesL_ (some 39) rfl rfl Try.func20 (by kernel_rfl) rfl #[.string a1, .string t309, .int .i64 x7_2] rfl (by (try simp only [List.map_toArray, List.map_cons, List.map_nil]); first | done | rfl | (simp only [List.length_drop, List.length_take]; rfl)) ?_; (with_reducible refine (surmiselaw08_one.calls k2 a1 t309 x7_2 t310 _ A29.out).mono ?_); rintro e w36 ⟨rfl, hb⟩; refine ⟨_, rfl, ?_⟩; have n0_ := Aside0.mk (below_step (by repeat (first | (with_reducible first | exact HB.out | apply below_alloc | apply pw_below_drewN | apply below_drew1) | exact HB.out)) hb); clear HB; have HB := n0_; clear n0_; (try clear hb); (try clear hb2); (try clear hk); (try clear hi)) | ((with_reducible refine gate_callee (f := 10) rfl ?_); refine goesL_ (some 41) rfl rfl Try.func10 (by kernel_rfl) rfl #[.string t310] rfl (by (try simp only [List.map_toArray, List.map_cons, List.map_nil]); first | done | rfl | (simp only [List.length_drop, List.length_take]; rfl)) ?_; (with_reducible refine (surmiseref08_Stream.calls k2 t310 true _ A30.out).mono ?_); rintro e w37 ⟨rfl, hb⟩; refine ⟨_, rfl, ?_⟩; have n0_ := Aside0.mk (below_step (by repeat (first | (with_reducible first | exact HB.out | apply below_alloc | apply pw_below_drewN | apply below_drew1) | exact HB.out)) hb); clear HB; have HB := n0_; clear n0_; (try clear hb); (try clear hb2); (try clear hk); (try clear hi)) | ((with_reducible refine gate_callee (f := 13) rfl ?_); refine goesL_ (some 45) rfl rfl Try.func13 (by kernel_rfl) rfl #[.string a1, .string t310] rfl (by (try simp only [List.map_toArray, List.map_cons, List.map_nil]); first | done | rfl | (simp only [List.length_drop, List.length_take]; rfl)) ?_; (with_reducible refine (pattern_Match.calls k2 a1 t310 true _ A32.out).mono ?_); rintro e w38 ⟨rfl, hb⟩; refine ⟨_, rfl, ?_⟩; have n0_ := Aside0.mk (below_step (by repeat (first | (with_reducible first | exact HB.out | apply below_alloc | apply pw_below_drewN | apply below_drew1) | exact HB.out)) hb); clear HB; have HB := n0_; clear n0_; (try clear hb); (try clear hb2); (try clear hk); (try clear hi)) | ((with_reducible refine gate_callee (f := 13) rfl ?_); refine goesL_ (some 49) rfl rfl Try.func13 (by kernel_rfl) rfl #[.string a0, .string t310] rfl (by (try simp only [List.map_toArray, List.map_cons, List.map_nil]); first | done | rfl | (simp only [List.length_drop, List.length_take]; rfl)) ?_; (with_reducible refine (pattern_Match.calls k2 a0 t310 true _ A34.out).mono ?_); rintro e w39 ⟨rfl, hb⟩; refine ⟨_, rfl, ?_⟩; have n0_ := Aside0.mk (below_step (by repeat (first | (with_reducible first | exact HB.out | apply below_alloc | apply pw_below_drewN | apply below_drew1) | exact HB.out)) hb); clear HB; have HB := n0_; clear n0_; (try clear hb); (try clear hb2); (try clear hk); (try clear hi)))
                      go_roundg k2
                      case measure => have := HJ2.out; have := HK2.out; omega
                      case rel => exact ⟨(x6_2), (wrap64 (x7_2 + 1)), (by first | rfl | (simp; done) | (simp [*]; done)), (by first | rfl | (simp; done) | (simp [*]; done)), H', ⟨by have := HJ2.out; have := HK2.out; omega⟩, ⟨by repeat (first | (with_reducible first | exact HB.out | apply below_alloc | apply pw_below_drewN | apply below_drew1) | exact HB.out)⟩⟩
                    · replace c35 := Bool.eq_false_iff.mpr c35
                      subst c35
                      have H1 : (some true) = some r := by rw [if_neg (show ¬ (false = true) by decide)] at H; exact H
                      clear H
                      have H := H1
                      clear H1
                      obtain rfl := Option.some.inj H
                      go_wp2_with (first | ((with_reducible refine gate_callee (f := 20) rfl ?_); refine goesL_ (some 39) rfl rfl Try.func20 (by kernel_rfl) rfl #[.string a1, .string t309, .int .i64 x7_2] rfl (by (try simp only [List.map_toArray, List.map_cons, List.map_nil]); first | done | rfl | (simp only [List.length_drop, List.length_take]; rfl)) ?_; (with_reducible refine (surmiselaw08_one.calls k2 a1 t309 x7_2 t310 _ A29.out).mono ?_); rintro e w40 ⟨rfl, hb⟩; refine ⟨_, rfl, ?_⟩; have n0_ := Aside0.mk (below_step (by repeat (first | (with_reducible first | exact HB.out | apply below_alloc | apply pw_below_drewN | apply below_drew1) | exact HB.out)) hb); clear HB; have HB := n0_; clear n0_; (try clear hb); (try clear hb2); (try clear hk); (try clear hi)) | ((with_reducible refine gate_callee (f := 10) rfl ?_); refine goesL_ (some 41) rfl rfl Try.func10 (by kernel_rfl) rfl #[.string t310] rfl (by (try simp only [List.map_toArray, List.map_cons, List.map_nil]); first | done | rfl | (simp only [List.length_drop, List.length_take]; rfl)) ?_; (with_reducible refine (surmiseref08_Stream.calls k2 t310 true _ A30.out).mono ?_); rintro e w41 ⟨rfl, hb⟩; refine ⟨_, rfl, ?_⟩; have n0_ := Aside0.mk (below_step (by repeat (first | (with_reducible first | exact HB.out | apply below_alloc | apply pw_below_drewN | apply below_drew1) | exact HB.out)) hb); clear HB; have HB := n0_; clear n0_; (try clear hb); (try clear hb2); (try clear hk); (try clear hi)) | ((with_reducible refine gate_callee (f := 13) rfl ?_); refine goesL_ (some 45) rfl rfl Try.func13 (by kernel_rfl) rfl #[.string a1, .string t310] rfl (by (try simp only [List.map_toArray, List.map_cons, List.map_nil]); first | done | rfl | (simp only [List.length_drop, List.length_take]; rfl)) ?_; (with_reducible refine (pattern_Match.calls k2 a1 t310 true _ A32.out).mono ?_); rintro e w42 ⟨rfl, hb⟩; refine ⟨_, rfl, ?_⟩; have n0_ := Aside0.mk (below_step (by repeat (first | (with_reducible first | exact HB.out | apply below_alloc | apply pw_below_drewN | apply below_drew1) | exact HB.out)) hb); clear HB; have HB := n0_; clear n0_; (try clear hb); (try clear hb2); (try clear hk); (try clear hi)) | ((with_reducible refine gate_callee (f := 13) rfl ?_); refine goesL_ (some 49) rfl rfl Try.func13 (by kernel_rfl) rfl #[.string a0, .string t310] rfl (by (try simp only [List.map_toArray, List.map_cons, List.map_nil]); first | done | rfl | (simp only [List.length_drop, List.length_take]; rfl)) ?_; (with_reducible refine (pattern_Match.calls k2 a0 t310 false _ A34.out).mono ?_); rintro e w43 ⟨rfl, hb⟩; refine ⟨_, rfl, ?_⟩; have n0_ := Aside0.mk (below_step (by repeat (first | (with_reducible first | exact HB.out | apply below_alloc | apply pw_below_drewN | apply below_drew1) | exact HB.out)) hb); clear HB; have HB := n0_; clear n0_; (try clear hb); (try clear hb2); (try clear hk); (try clear hi)))
                      go_ret
                      exact ⟨by first | rfl | (simp [errW_none, errW_some] <;> rfl) | (simp [*, errW_none, errW_some] <;> rfl), by repeat (first | (with_reducible first | exact HB.out | apply below_alloc | apply pw_below_drewN | apply below_drew1) | exact HB.out)⟩
                  · replace c33 := Bool.eq_false_iff.mpr c33
                    subst c33
                    have H1 : (some false) = some r := by rw [if_neg (show ¬ (false = true) by decide)] at H; exact H
                    clear H
                    have H := H1
                    clear H1
                    obtain rfl := Option.some.inj H
                    go_wp2_with (first | ((with_reducible refine gate_callee (f := 20) rfl ?_); refine goesL_ (some 39) rfl rfl Try.func20 (by kernel_rfl) rfl #[.string a1, .string t309, .int .i64 x7_2] rfl (by (try simp only [List.map_toArray, List.map_cons, List.map_nil]); first | done | rfl | (simp only [List.length_drop, List.length_take]; rfl)) ?_; (with_reducible refine (surmiselaw08_one.calls k2 a1 t309 x7_2 t310 _ A29.out).mono ?_); rintro e w44 ⟨rfl, hb⟩; refine ⟨_, rfl, ?_⟩; have n0_ := Aside0.mk (below_step (by repeat (first | (with_reducible first | exact HB.out | apply below_alloc | apply pw_below_drewN | apply below_drew1) | exact HB.out)) hb); clear HB; have HB := n0_; clear n0_; (try clear hb); (try clear hb2); (try clear hk); (try clear hi)) | ((with_reducible refine gate_callee (f := 10) rfl ?_); refine goesL_ (some 41) rfl rfl Try.func10 (by kernel_rfl) rfl #[.string t310] rfl (by (try simp only [List.map_toArray, List.map_cons, List.map_nil]); first | done | rfl | (simp only [List.length_drop, List.length_take]; rfl)) ?_; (with_reducible refine (surmiseref08_Stream.calls k2 t310 true _ A30.out).mono ?_); rintro e w45 ⟨rfl, hb⟩; refine ⟨_, rfl, ?_⟩; have n0_ := Aside0.mk (below_step (by repeat (first | (with_reducible first | exact HB.out | apply below_alloc | apply pw_below_drewN | apply below_drew1) | exact HB.out)) hb); clear HB; have HB := n0_; clear n0_; (try clear hb); (try clear hb2); (try clear hk); (try clear hi)) | ((with_reducible refine gate_callee (f := 13) rfl ?_); refine goesL_ (some 45) rfl rfl Try.func13 (by kernel_rfl) rfl #[.string a1, .string t310] rfl (by (try simp only [List.map_toArray, List.map_cons, List.map_nil]); first | done | rfl | (simp only [List.length_drop, List.length_take]; rfl)) ?_; (with_reducible refine (pattern_Match.calls k2 a1 t310 false _ A32.out).mono ?_); rintro e w46 ⟨rfl, hb⟩; refine ⟨_, rfl, ?_⟩; have n0_ := Aside0.mk (below_step (by repeat (first | (with_reducible first | exact HB.out | apply below_alloc | apply pw_below_drewN | apply below_drew1) | exact HB.out)) hb); clear HB; have HB := n0_; clear n0_; (try clear hb); (try clear hb2); (try clear hk); (try clear hi)))
                    go_ret
                    exact ⟨by first | rfl | (simp [errW_none, errW_some] <;> rfl) | (simp [*, errW_none, errW_some] <;> rfl), by repeat (first | (with_reducible first | exact HB.out | apply below_alloc | apply pw_below_drewN | apply below_drew1) | exact HB.out)⟩
                · replace c31 := Bool.eq_false_iff.mpr c31
                  subst c31
                  have H1 : (surmiselaw08_PatternWhole.l0 k2 a0 a1 t309 true (wrap64 (x7_2 + 1))) = some r := by rw [if_neg (show ¬ (false = true) by decide)] at H; exact H
                  clear H
                  have H := H1
                  clear H1
                  have H' := Aside0.mk H
                  clear H
                  go_wp2_with (first | ((with_reducible refine gate_callee (f := 20) rfl ?_); refine goesL_ (some 39) rfl rfl Try.func20 (by kernel_rfl) rfl #[.string a1, .string t309, .int .i64 x7_2] rfl (by (try simp only [List.map_toArray, List.map_cons, List.map_nil]); first | done | rfl | (simp only [List.length_drop, List.length_take]; rfl)) ?_; (with_reducible refine (surmiselaw08_one.calls k2 a1 t309 x7_2 t310 _ A29.out).mono ?_); rintro e w47 ⟨rfl, hb⟩; refine ⟨_, rfl, ?_⟩; have n0_ := Aside0.mk (below_step (by repeat (first | (with_reducible first | exact HB.out | apply below_alloc | apply pw_below_drewN | apply below_drew1) | exact HB.out)) hb); clear HB; have HB := n0_; clear n0_; (try clear hb); (try clear hb2); (try clear hk); (try clear hi)) | ((with_reducible refine gate_callee (f := 10) rfl ?_); refine goesL_ (some 41) rfl rfl Try.func10 (by kernel_rfl) rfl #[.string t310] rfl (by (try simp only [List.map_toArray, List.map_cons, List.map_nil]); first | done | rfl | (simp only [List.length_drop, List.length_take]; rfl)) ?_; (with_reducible refine (surmiseref08_Stream.calls k2 t310 false _ A30.out).mono ?_); rintro e w48 ⟨rfl, hb⟩; refine ⟨_, rfl, ?_⟩; have n0_ := Aside0.mk (below_step (by repeat (first | (with_reducible first | exact HB.out | apply below_alloc | apply pw_below_drewN | apply below_drew1) | exact HB.out)) hb); clear HB; have HB := n0_; clear n0_; (try clear hb); (try clear hb2); (try clear hk); (try clear hi)))
                  go_roundg k2
                  case measure => have := HJ2.out; have := HK2.out; omega
                  case rel => exact ⟨(true), (wrap64 (x7_2 + 1)), (by first | rfl | (simp; done) | (simp [*]; done)), (by first | rfl | (simp; done) | (simp [*]; done)), H', ⟨by have := HJ2.out; have := HK2.out; omega⟩, ⟨by repeat (first | (with_reducible first | exact HB.out | apply below_alloc | apply pw_below_drewN | apply below_drew1) | exact HB.out)⟩⟩
              · rw [if_neg c28] at H
                have c28b0 : decide (x7_2 < 5) = false := decide_eq_false c28
                clear c28
                obtain rfl := Option.some.inj H
                go_wp2
                go_ret
                exact ⟨by first | rfl | (simp [errW_none, errW_some] <;> rfl) | (simp [*, errW_none, errW_some] <;> rfl), by repeat (first | (with_reducible first | exact HB.out | apply below_alloc | apply pw_below_drewN | apply below_drew1) | exact HB.out)⟩

/-- THE ONE PURE STATEMENT of surmiselaw08_PatternWhole: yours. -/
def surmiselaw08_PatternWhole.Pure : Prop := ∀ (a0 : ByteArray) (a1 : ByteArray), a0.size ≤ 140737488351232 → a1.size ≤ 140737488351232 → ∃ k, surmiselaw08_PatternWhole.f k a0 a1 = some true
theorem surmiselaw08_PatternWhole.walk (P : surmiselaw08_PatternWhole.Pure) (a0 : ByteArray) (a1 : ByteArray) (w : World) (w0 : a0.size ≤ 140737488351232) (w1 : a1.size ≤ 140737488351232) :
    Calls Try.prog 6 #[.string a0, .string a1] w fun e w' => e = .returned (.bool true) ∧ Below w.heap.size w w' := by
  obtain ⟨k, h⟩ := P a0 a1 w0 w1
  refine (surmiselaw08_PatternWhole.calls k a0 a1 true w h).mono ?_
  rintro e w' ⟨rfl, hd⟩
  exact ⟨rfl, hd⟩

end Go.Proofs.Ytlcgmlfiggkppaa.Q

/- Small words that all hand-written texts of this seat share. -/
namespace Go.Proofs.Ytlcgmlfiggkppaa.Q
open Go.RowKit Go.Proofs.YtlcgmlfiggkppaaW.PrintWords Go.Proofs.YtlcgmlfiggkppaaW.PrintLast Go.Proofs.YtlcgmlfiggkppaaW.PrintMore

theorem ret_int {k : IntKind} {a b : Int} (h : a = b) : Ending.returned (.int k a) = .returned (.int k b) := by rw [h]
theorem ret_str {a b : ByteArray} (h : a = b) : Ending.returned (.string a) = .returned (.string b) := by rw [h]
theorem ret_bool {a b : Bool} (h : a = b) : Ending.returned (.bool a) = .returned (.bool b) := by rw [h]
theorem ret_val {a b : Value} (h : a = b) : Ending.returned a = .returned b := by rw [h]
theorem ret_two {a b c d : Value} (h : a = b) (k : c = d) : Ending.returned (.tuple #[a, c]) = .returned (.tuple #[b, d]) := by rw [h, k]
theorem ret_three {a b c d e f : Value} (h : a = b) (k : c = d) (l : e = f) : Ending.returned (.tuple #[a, c, e]) = .returned (.tuple #[b, d, f]) := by rw [h, k, l]
theorem bits_u32 (op : BinOp) (x y : Int) : 0 ≤ Go.bits op .u32 x y ∧ Go.bits op .u32 x y < 4294967296 := by
  unfold Go.bits
  rw [IntKind.wrap_u32]
  omega
theorem bits_u8 (op : BinOp) (x y : Int) : 0 ≤ Go.bits op .u8 x y ∧ Go.bits op .u8 x y < 256 := by
  unfold Go.bits
  rw [IntKind.wrap_u8]
  omega
theorem below_row {B g : Nat} {w0 w : World} (hb : Below B w0 w) (hg : B ≤ g) (cs : Array Value) : Below B w0 (w.setRow g cs) :=
  ⟨hb.os, hb.tape, hb.output, by simpa using hb.size, fun i hi => (setRow_other w g i cs (by omega)).trans (hb.block i hi)⟩
theorem xor_u32 (a b : Nat) (ha : a < 4294967296) (hb : b < 4294967296) : Go.bits .xor .u32 (a : Int) (b : Int) = ((a ^^^ b : Nat) : Int) := by
  have h32 : a ^^^ b < 4294967296 := Nat.xor_lt_two_pow (n := 32) ha hb
  unfold Go.bits
  rw [IntKind.wrap_u32]
  simp only [BitVec.ofInt_natCast, BitVec.toNat_xor, BitVec.toNat_ofNat]
  have e1 : a % 2 ^ IntKind.u32.bits = a := Nat.mod_eq_of_lt ha
  have e2 : b % 2 ^ IntKind.u32.bits = b := Nat.mod_eq_of_lt hb
  rw [e1, e2]
  omega
theorem xor_u8 (a b : Nat) (ha : a < 256) (hb : b < 256) : Go.bits .xor .u8 (a : Int) (b : Int) = ((a ^^^ b : Nat) : Int) := by
  have h8 : a ^^^ b < 256 := Nat.xor_lt_two_pow (n := 8) ha hb
  unfold Go.bits
  rw [IntKind.wrap_u8]
  simp only [BitVec.ofInt_natCast, BitVec.toNat_xor, BitVec.toNat_ofNat]
  have e1 : a % 2 ^ IntKind.u8.bits = a := Nat.mod_eq_of_lt ha
  have e2 : b % 2 ^ IntKind.u8.bits = b := Nat.mod_eq_of_lt hb
  rw [e1, e2]
  omega
theorem and1_u32 (a : Nat) (ha : a < 4294967296) : Go.bits .and .u32 (a : Int) 1 = ((a % 2 : Nat) : Int) := by
  have h := bits_mask .u32 32 (by decide) (fun n h0 h1 => by rw [IntKind.wrap_u32]; omega) 1 (by decide) (a : Int) (by omega) (by omega)
  simpa using h

end Go.Proofs.Ytlcgmlfiggkppaa.Q

/- Strings as lists of numbers: small lemmas without a program. -/
namespace Go.Proofs.Ytlcgmlfiggkppaa.Q
open Go.RowKit Go.Proofs.YtlcgmlfiggkppaaW.PrintWords Go.Proofs.YtlcgmlfiggkppaaW.PrintLast Go.Proofs.YtlcgmlfiggkppaaW.PrintMore
set_option linter.unusedVariables false
set_option linter.unusedSimpArgs false

/-- A step of a chain of answers (by an equation: the kernel isn't asked to unfold anything). -/
theorem bind_of {α β : Type} {o : Option α} {x : α} (h : o = some x) (f : α → Option β) : o.bind f = f x := by rw [h]; rfl
theorem wrap_up {i : Int} (h0 : 0 ≤ i) (h : i < 9223372036854775807) : wrap64 (i + 1) = i + 1 := by
  unfold wrap64
  omega
theorem wrap_id {i : Int} (h0 : -9223372036854775808 ≤ i) (h : i ≤ 9223372036854775807) : wrap64 i = i := by
  unfold wrap64
  omega
/-- A string's bytes as numbers. -/
def bl (s : ByteArray) : List Nat := s.data.toList.map (·.toNat)
theorem bl_length (s : ByteArray) : (bl s).length = s.size := by simp [bl, data_length]
theorem bl_lt (s : ByteArray) : ∀ c ∈ bl s, c < 256 := by
  intro c hc
  simp only [bl, List.mem_map] at hc
  obtain ⟨b, _, rfl⟩ := hc
  exact b.toNat_lt
theorem bl_bt (s : ByteArray) (i : Nat) (hi : i < s.size) : bt s (i : Int) = (((bl s)[i]'(by rw [bl_length]; exact hi) : Nat) : Int) := by
  simp only [bt, Int.toNat_natCast, dif_pos hi, bl, List.getElem_map]
  rfl
theorem bl_drop (s : ByteArray) (i : Nat) (hi : i < s.size) : (bl s).drop i = (bl s)[i]'(by rw [bl_length]; exact hi) :: (bl s).drop (i + 1) := List.drop_eq_getElem_cons _

theorem bl_idx (s : ByteArray) (i : Nat) (hi : i < (bl s).length) : (bl s)[i] < 256 := bl_lt s _ (List.getElem_mem hi)
theorem str_ext {a b : ByteArray} (h : a.data.toList = b.data.toList) : a = b := by
  obtain ⟨⟨a⟩⟩ := a
  obtain ⟨⟨b⟩⟩ := b
  simp only at h
  rw [h]
theorem toList_iff {a b : ByteArray} : a.toList = b.toList ↔ a = b := by
  constructor
  · intro h
    rw [Go.Lib.toList_data, Go.Lib.toList_data] at h
    exact str_ext h
  · intro h
    rw [h]
theorem bl_inj {a b : ByteArray} (h : bl a = bl b) : a = b := by
  apply str_ext
  unfold bl at h
  generalize a.data.toList = x at h
  generalize b.data.toList = y at h
  induction x generalizing y with
  | nil => cases y with
    | nil => rfl
    | cons c y => simp at h
  | cons c x ih => cases y with
    | nil => simp at h
    | cons d y =>
      simp only [List.map_cons, List.cons.injEq] at h
      rw [UInt8.toNat_inj.1 h.1, ih y h.2]
theorem bl_append (a b : ByteArray) : bl (a ++ b) = bl a ++ bl b := by simp [bl, ByteArray.data_append]
theorem bl_extract (s : ByteArray) (i j : Nat) : bl (s.extract i j) = ((bl s).take j).drop i := by
  simp [bl, ByteArray.data_extract, List.map_drop, List.map_take]
  rw [List.drop_take]
theorem bl_nums (l : List Int) (h : ∀ x ∈ l, 0 ≤ x ∧ x < 256) : bl (strOfNums l) = l.map Int.toNat := by
  simp only [bl, strOfNums_data, List.map_map]
  apply List.map_congr_left
  intro x hx
  have := h x hx
  simp only [Function.comp_apply, UInt8.toNat_ofNat']
  omega
theorem bytesOf_bl (s : ByteArray) : bytesOf s = (bl s).map fun (n : Nat) => (n : Int) := by simp [bytesOf, bl]
theorem strOfNums_append (a b : List Int) : strOfNums (a ++ b) = strOfNums a ++ strOfNums b := by
  apply str_ext
  simp [strOfNums_data, ByteArray.data_append]
theorem strOfNums_bytesOf (s : ByteArray) : strOfNums (bytesOf s) = s := by
  apply bl_inj
  rw [bl_nums _ (by intro x hx; rw [bytesOf_bl, List.mem_map] at hx; obtain ⟨n, hn, rfl⟩ := hx; have := bl_lt s n hn; omega), bytesOf_bl, List.map_map]
  have e : (Int.toNat ∘ fun (n : Nat) => (n : Int)) = id := by funext n; rfl
  rw [e, List.map_id]

end Go.Proofs.Ytlcgmlfiggkppaa.Q

/- Parts of a text, as the program and the reference cut them. -/
namespace Go.Proofs.Ytlcgmlfiggkppaa.Q
open Go.RowKit Go.Proofs.YtlcgmlfiggkppaaW.PrintWords Go.Proofs.YtlcgmlfiggkppaaW.PrintLast Go.Proofs.YtlcgmlfiggkppaaW.PrintMore
set_option linter.unusedVariables false
set_option linter.unusedSimpArgs false

theorem getD_at (l : List Nat) (i : Nat) (h : i < l.length) : l.getD i 0 = l[i] := by simp [List.getD, h]
theorem bt_getD (s : ByteArray) (i : Nat) (h : i < s.size) : bt s (i : Int) = (((bl s).getD i 0 : Nat) : Int) := by
  rw [bl_bt s i h, getD_at _ _ (by rw [bl_length]; exact h)]
theorem cut_join (s : ByteArray) (a b c : Nat) (h1 : a ≤ b) (h2 : b ≤ c) (h3 : c ≤ s.size) : s.extract a b ++ s.extract b c = s.extract a c := by
  apply bl_inj
  rw [bl_append, bl_extract, bl_extract, bl_extract]
  have hl : (bl s).length = s.size := bl_length s
  generalize bl s = l at hl ⊢
  have e1 : l.take b = (l.take c).take b := by rw [List.take_take, Nat.min_eq_left h2]
  rw [e1]
  have hm : (l.take c).length = c := by rw [List.length_take]; omega
  generalize l.take c = m at hm ⊢
  have e2 : m = m.take b ++ m.drop b := (List.take_append_drop b m).symm
  have e3 : m.drop a = (m.take b ++ m.drop b).drop a := by rw [List.take_append_drop]
  rw [e3, List.drop_append_of_le_length (by rw [List.length_take]; omega)]
/-- What is cut from place `from`, with d bytes still ahead. -/
def cuts (s : ByteArray) : Nat → Nat → List ByteArray
  | 0, a => [s.extract a s.size]
  | d + 1, a => if (bl s).getD (s.size - (d + 1)) 0 = 47 then s.extract a (s.size - (d + 1)) :: cuts s d (s.size - d) else cuts s d a
def partsP (s : ByteArray) : List ByteArray := cuts s s.size 0
theorem cuts_len (s : ByteArray) (d : Nat) : ∀ a, 1 ≤ (cuts s d a).length ∧ (cuts s d a).length ≤ d + 1 := by
  induction d with
  | zero => intro a; exact ⟨Nat.le_refl _, Nat.le_refl _⟩
  | succ d ih =>
    intro a
    rw [cuts]
    split
    · have := ih (s.size - d)
      rw [List.length_cons]
      omega
    · have := ih a
      omega
theorem parts_len (s : ByteArray) : 1 ≤ (partsP s).length ∧ (partsP s).length ≤ s.size + 1 := cuts_len s s.size 0
theorem parts_l0 (s : ByteArray) (hs : s.size ≤ 8796093022000) (d : Nat) : ∀ (k i a : Nat) (acc : List ByteArray), i + d = s.size → a ≤ i → acc.length ≤ i → d + 1 ≤ k → pattern_parts.l0 k s acc (a : Int) (s.size : Int) (i : Int) = some (acc ++ cuts s d a) := by
  induction d with
  | zero =>
    intro k i a acc hi ha hl hk
    obtain ⟨k, rfl⟩ : ∃ k', k = k' + 1 := ⟨k - 1, by omega⟩
    rw [pattern_parts.l0, if_neg (by omega), if_pos (by omega), if_pos (by omega), if_pos (by omega), cuts, Int.toNat_natCast]
  | succ d ih =>
    intro k i a acc hi ha hl hk
    obtain ⟨k, rfl⟩ : ∃ k', k = k' + 1 := ⟨k - 1, by omega⟩
    have e : s.size - (d + 1) = i := by omega
    have e2 : s.size - d = i + 1 := by omega
    rw [pattern_parts.l0, if_pos (by omega), if_pos (by omega), if_pos (by omega), bt_getD s i (by omega), cuts, e, e2]
    by_cases h : (bl s).getD i 0 = 47
    · rw [if_pos (by omega), if_pos (by omega), if_pos (by omega), if_pos (by omega), if_pos (by omega), if_pos h, wrap_up (by omega) (by omega), Int.toNat_natCast, Int.toNat_natCast]
      have := ih k (i + 1) (i + 1) (acc ++ [s.extract a i]) (by omega) (Nat.le_refl _) (by simp; omega) (by omega)
      rw [List.append_assoc] at this
      exact this
    · rw [if_neg (by omega), if_neg h, wrap_up (by omega) (by omega)]
      exact ih k (i + 1) a acc (by omega) (by omega) (by omega) (by omega)
theorem parts_some (s : ByteArray) (hs : s.size ≤ 8796093022000) (k : Nat) (hk : s.size + 1 ≤ k) : pattern_parts.f k s = some (partsP s) := by
  have := parts_l0 s hs s.size k 0 0 [] (by omega) (Nat.le_refl _) (Nat.le_refl _) hk
  rw [List.nil_append] at this
  exact this
theorem split_l0 (s : ByteArray) (hs : s.size ≤ 8796093022000) (d : Nat) : ∀ (k i a : Nat) (acc : List ByteArray), i + d = s.size → a ≤ i → acc.length ≤ i → d + 1 ≤ k → surmiseref06_Split.l0 k s 47 acc (s.extract a i) (i : Int) = some (acc ++ cuts s d a) := by
  induction d with
  | zero =>
    intro k i a acc hi ha hl hk
    obtain ⟨k, rfl⟩ : ∃ k', k = k' + 1 := ⟨k - 1, by omega⟩
    have e : i = s.size := by omega
    rw [surmiseref06_Split.l0, if_neg (by omega), if_pos (by omega), cuts, e]
  | succ d ih =>
    intro k i a acc hi ha hl hk
    obtain ⟨k, rfl⟩ : ∃ k', k = k' + 1 := ⟨k - 1, by omega⟩
    have e : s.size - (d + 1) = i := by omega
    have e2 : s.size - d = i + 1 := by omega
    rw [surmiseref06_Split.l0, if_pos (by omega), if_pos (by omega), bt_getD s i (by omega), cuts, e, e2]
    by_cases h : (bl s).getD i 0 = 47
    · rw [if_pos (by omega), if_pos (by omega), if_pos h, wrap_up (by omega) (by omega)]
      have := ih k (i + 1) (i + 1) (acc ++ [s.extract a i]) (by omega) (Nat.le_refl _) (by simp; omega) (by omega)
      rw [List.append_assoc] at this
      have e3 : s.extract (i + 1) (i + 1) = (⟨#[]⟩ : ByteArray) := by
        apply bl_inj
        rw [bl_extract, List.drop_eq_nil_of_le (by rw [List.length_take]; omega)]
        rfl
      rw [e3] at this
      exact this
    · have hz : (s.extract a i).size ≤ s.size := by
        rw [← bl_length, bl_extract, List.length_drop, List.length_take, bl_length]
        omega
      have hz2 : (s.extract i (i + 1)).size ≤ s.size := by
        rw [← bl_length, bl_extract, List.length_drop, List.length_take, bl_length]
        omega
      have e4 : ((i : Int) + 1).toNat = i + 1 := by omega
      rw [if_neg (by omega), if_neg h, wrap_up (by omega) (by omega), if_pos (by omega), if_pos (by omega), Int.toNat_natCast, e4, if_pos (by omega), cut_join s a i (i + 1) ha (by omega) (by omega)]
      exact ih k (i + 1) a acc (by omega) (by omega) (by omega) (by omega)
theorem refparts_some (s : ByteArray) (hs : s.size ≤ 8796093022000) (k : Nat) (hk : s.size + 1 ≤ k) : surmiseref08_Parts.f k s = some (partsP s) := by
  have h0 : surmiseref06_Split.f k s 47 = some (partsP s) := by
    have := split_l0 s hs s.size k 0 0 [] (by omega) (Nat.le_refl _) (Nat.le_refl _) hk
    have e3 : s.extract 0 0 = (⟨#[]⟩ : ByteArray) := by
      apply bl_inj
      rw [bl_extract, List.drop_eq_nil_of_le (by rw [List.length_take]; omega)]
      rfl
    rw [List.nil_append, e3] at this
    exact this
  unfold surmiseref08_Parts.f
  rw [bind_of h0]

end Go.Proofs.Ytlcgmlfiggkppaa.Q

/- Names and patterns: which texts are some, by the program and by the reference. -/
namespace Go.Proofs.Ytlcgmlfiggkppaa.Q
open Go.RowKit Go.Proofs.YtlcgmlfiggkppaaW.PrintWords Go.Proofs.YtlcgmlfiggkppaaW.PrintLast Go.Proofs.YtlcgmlfiggkppaaW.PrintMore
set_option linter.unusedVariables false
set_option linter.unusedSimpArgs false

def okB (c : Nat) : Bool := decide (97 ≤ c ∧ c ≤ 122 ∨ 48 ≤ c ∧ c ≤ 57 ∨ c = 45 ∨ c = 95)
def allOk (l : List Nat) : Bool := l.all okB
def plainB (s : ByteArray) : Bool := decide (0 < s.size) && allOk (bl s)
theorem plain_l0 (s : ByteArray) (hs : s.size ≤ 8796093022000) (d : Nat) : ∀ (k i : Nat), i + d = s.size → 3 * d + 3 ≤ k → pattern_plain.l0 k s (s.size : Int) (i : Int) = some (allOk ((bl s).drop i)) := by
  induction d with
  | zero =>
    intro k i hi hk
    obtain ⟨k, rfl⟩ : ∃ k', k = k' + 1 := ⟨k - 1, by omega⟩
    rw [pattern_plain.l0, if_neg (by omega), List.drop_eq_nil_of_le (by rw [bl_length]; omega)]
    rfl
  | succ d ih =>
    intro k i hi hk
    obtain ⟨k, rfl⟩ : ∃ k', k = k' + 3 := ⟨k - 3, by omega⟩
    have hb := bl_bt s i (by omega)
    have hi1 := ih (k + 1) (i + 1) (by omega) (by omega)
    have hi2 := ih k (i + 1) (by omega) (by omega)
    rw [pattern_plain.l0, if_pos (by omega), if_pos (by omega), if_pos (by omega), hb, bl_drop s i (by omega)]
    generalize (bl s)[i]'(by rw [bl_length]; omega) = c
    have ha : allOk (c :: (bl s).drop (i + 1)) = (okB c && allOk ((bl s).drop (i + 1))) := rfl
    have hok : okB c = decide (97 ≤ c ∧ c ≤ 122 ∨ 48 ≤ c ∧ c ≤ 57 ∨ c = 45 ∨ c = 95) := rfl
    have hj2 : ∀ b : Bool, pattern_plain.j2 (k + 1) s (c : Int) (s.size : Int) (i : Int) b = some ((b || decide (c = 45 ∨ c = 95)) && allOk ((bl s).drop (i + 1))) := by
      intro b
      rw [pattern_plain.j2, wrap_up (by omega) (by omega)]
      cases b with
      | true => rw [if_pos rfl]; exact hi2
      | false =>
        rw [if_neg (by decide)]
        by_cases h1 : c = 45
        · rw [if_pos (by omega), decide_eq_true (by omega : c = 45 ∨ c = 95)]; exact hi2
        · rw [if_neg (by omega)]
          by_cases h2 : c = 95
          · rw [if_pos (by omega), decide_eq_true (by omega : c = 45 ∨ c = 95)]; exact hi2
          · rw [if_neg (by omega), decide_eq_false (by omega : ¬ (c = 45 ∨ c = 95))]; rfl
    have hj1 : ∀ b : Bool, pattern_plain.j1 (k + 2) s (c : Int) (s.size : Int) (i : Int) b = some ((b || (decide (48 ≤ c ∧ c ≤ 57) || decide (c = 45 ∨ c = 95))) && allOk ((bl s).drop (i + 1))) := by
      intro b
      rw [pattern_plain.j1, wrap_up (by omega) (by omega)]
      cases b with
      | true => rw [if_pos rfl]; exact hi1
      | false =>
        rw [if_neg (by decide)]
        by_cases h1 : 48 ≤ c
        · rw [if_pos (by omega), hj2]
          by_cases h2 : c ≤ 57
          · rw [decide_eq_true (by omega : (c : Int) ≤ 57), decide_eq_true (by omega : 48 ≤ c ∧ c ≤ 57)]; rfl
          · rw [decide_eq_false (by omega : ¬ (c : Int) ≤ 57), decide_eq_false (by omega : ¬ (48 ≤ c ∧ c ≤ 57))]; rfl
        · rw [if_neg (by omega), hj2, decide_eq_false (by omega : ¬ (48 ≤ c ∧ c ≤ 57))]; rfl
    rw [ha, hok]
    by_cases h1 : 97 ≤ c
    · rw [if_pos (by omega), hj1]
      by_cases h2 : c ≤ 122
      · rw [decide_eq_true (by omega : (c : Int) ≤ 122), decide_eq_true (by omega : 97 ≤ c ∧ c ≤ 122 ∨ 48 ≤ c ∧ c ≤ 57 ∨ c = 45 ∨ c = 95)]; rfl
      · rw [decide_eq_false (by omega : ¬ (c : Int) ≤ 122), decide_eq_false (by omega : ¬ (97 ≤ c ∧ c ≤ 122 ∨ 48 ≤ c ∧ c ≤ 57 ∨ c = 45 ∨ c = 95)), decide_eq_false (by omega : ¬ (48 ≤ c ∧ c ≤ 57)), decide_eq_false (by omega : ¬ (c = 45 ∨ c = 95))]; rfl
    · rw [if_neg (by omega), hj1]
      have e : (false || (decide (48 ≤ c ∧ c ≤ 57) || decide (c = 45 ∨ c = 95))) = decide (97 ≤ c ∧ c ≤ 122 ∨ 48 ≤ c ∧ c ≤ 57 ∨ c = 45 ∨ c = 95) := by
        rw [Bool.false_or, ← Bool.decide_or]
        exact decide_eq_decide.mpr (by omega)
      rw [e]
theorem toList_nil (s : ByteArray) : s.toList = ([] : List UInt8) ↔ s.size = 0 := by
  have e : ([] : List UInt8) = (⟨#[]⟩ : ByteArray).toList := by rw [ByteArray.toList, ByteArray.toList.loop]; rfl
  rw [e, toList_iff]
  constructor
  · rintro rfl; rfl
  · intro h
    apply bl_inj
    have : (bl s).length = 0 := by rw [bl_length]; exact h
    rw [List.length_eq_zero_iff.mp this]
    rfl
theorem plain_some (s : ByteArray) (hs : s.size ≤ 8796093022000) (k : Nat) (hk : 3 * s.size + 3 ≤ k) : pattern_plain.f k s = some (plainB s) := by
  unfold pattern_plain.f plainB
  by_cases h : s.size = 0
  · rw [if_pos ((toList_nil s).mpr h), decide_eq_false (by omega)]; rfl
  · rw [if_neg (fun h' => h ((toList_nil s).mp h')), decide_eq_true (by omega)]
    have := plain_l0 s hs s.size k 0 (by omega) hk
    rw [List.drop_zero] at this
    rw [Bool.true_and]
    exact this
theorem refplain_l0 (s : ByteArray) (hs : s.size ≤ 8796093022000) (d : Nat) : ∀ (k i : Nat), i + d = s.size → d + 1 ≤ k → surmiseref08_Plain.l0 k s (i : Int) = some (decide (0 < s.size) && allOk ((bl s).drop i)) := by
  induction d with
  | zero =>
    intro k i hi hk
    obtain ⟨k, rfl⟩ : ∃ k', k = k' + 1 := ⟨k - 1, by omega⟩
    have e : decide ((s.size : Int) > 0) = decide (0 < s.size) := decide_eq_decide.mpr (by omega)
    have e2 : allOk [] = true := rfl
    rw [surmiseref08_Plain.l0, if_neg (by omega), List.drop_eq_nil_of_le (by rw [bl_length]; omega), e, e2, Bool.and_true]
  | succ d ih =>
    intro k i hi hk
    obtain ⟨k, rfl⟩ : ∃ k', k = k' + 1 := ⟨k - 1, by omega⟩
    have hb := bl_bt s i (by omega)
    have hi1 := ih k (i + 1) (by omega) (by omega)
    rw [surmiseref08_Plain.l0, if_pos (by omega), if_pos (by omega), hb, bl_drop s i (by omega), wrap_up (by omega) (by omega)]
    have e1 : (i : Int) + 1 = ((i + 1 : Nat) : Int) := by omega
    rw [e1, hi1]
    generalize (bl s)[i]'(by rw [bl_length]; omega) = c
    have ha : allOk (c :: (bl s).drop (i + 1)) = (okB c && allOk ((bl s).drop (i + 1))) := rfl
    have hok : okB c = decide (97 ≤ c ∧ c ≤ 122 ∨ 48 ≤ c ∧ c ≤ 57 ∨ c = 45 ∨ c = 95) := rfl
    rw [ha, hok, decide_eq_true (by omega : 0 < s.size)]
    by_cases hc : 97 ≤ c ∧ c ≤ 122 ∨ 48 ≤ c ∧ c ≤ 57 ∨ c = 45 ∨ c = 95
    · rw [decide_eq_true hc]
      simp only [Bool.true_and]
      (repeat' split) <;> first | rfl | omega
    · rw [decide_eq_false hc]
      simp only [Bool.true_and, Bool.false_and]
      (repeat' split) <;> first | rfl | omega
theorem refplain_some (s : ByteArray) (hs : s.size ≤ 8796093022000) (k : Nat) (hk : s.size + 1 ≤ k) : surmiseref08_Plain.f k s = some (plainB s) := by
  unfold surmiseref08_Plain.f plainB
  exact refplain_l0 s hs s.size k 0 (by omega) hk

/-! ## names -/
theorem rd_at (l : List ByteArray) (i : Nat) (h : i < l.length) : rdOf ByteArray.empty l (i : Int) = l[i] := by
  simp [rdOf, h]
theorem cuts_size (s : ByteArray) (d : Nat) : ∀ a, ∀ x ∈ cuts s d a, x.size ≤ s.size := by
  have hz : ∀ a b, (s.extract a b).size ≤ s.size := fun a b => by
    rw [← bl_length, bl_extract, List.length_drop, List.length_take, bl_length]
    omega
  induction d with
  | zero => intro a x hx; rw [cuts, List.mem_singleton] at hx; rw [hx]; exact hz _ _
  | succ d ih =>
    intro a x
    rw [cuts]
    split
    · intro hx
      rcases List.mem_cons.mp hx with rfl | hx
      · exact hz _ _
      · exact ih _ x hx
    · exact ih _ x
theorem parts_size (s : ByteArray) : ∀ x ∈ partsP s, x.size ≤ s.size := cuts_size s s.size 0
def streamL (l : List ByteArray) : Bool := l.all plainB && decide (l.length ≤ 4)
def streamB (s : ByteArray) : Bool := decide (s.size ≤ 32) && streamL (partsP s)
theorem all_stream_l0 (l : List ByteArray) (hl : l.length ≤ 1000000) (M : Nat) (hM : M ≤ 1000) (hz : ∀ x ∈ l, x.size ≤ M) (d : Nat) : ∀ (k i : Nat), i + d = l.length → d + 3 * M + 5 ≤ k → pattern_all_by_pattern_Stream_1.l0 k l l (l.length : Int) (i : Int) = some ((l.drop i).all plainB && decide (l.length ≤ 4)) := by
  induction d with
  | zero =>
    intro k i hi hk
    obtain ⟨k, rfl⟩ : ∃ k', k = k' + 1 := ⟨k - 1, by omega⟩
    have e : decide ((l.length : Int) ≤ 4) = decide (l.length ≤ 4) := decide_eq_decide.mpr (by omega)
    rw [pattern_all_by_pattern_Stream_1.l0, if_neg (by omega), List.drop_eq_nil_of_le (by omega), e]
    rfl
  | succ d ih =>
    intro k i hi hk
    obtain ⟨k, rfl⟩ : ∃ k', k = k' + 1 := ⟨k - 1, by omega⟩
    have hx : l[i].size ≤ M := hz _ (List.getElem_mem _)
    have hp : pattern_Stream_1.f k (i : Int) (l.length : Int) l[i] = some (plainB l[i]) := by
      unfold pattern_Stream_1.f
      rw [bind_of (plain_some l[i] (by omega) k (by omega))]
    rw [pattern_all_by_pattern_Stream_1.l0, if_pos (by omega), if_pos (by omega), if_pos (by omega), rd_at l i (by omega), bind_of hp, List.drop_eq_getElem_cons (by omega), List.all_cons, wrap_up (by omega) (by omega)]
    cases plainB l[i] with
    | true => rw [if_pos rfl, Bool.true_and]; exact ih k (i + 1) (by omega) (by omega)
    | false => rw [if_neg (by decide), Bool.false_and, Bool.false_and]
theorem stream_some (s : ByteArray) (k : Nat) (hk : 300 ≤ k) : pattern_Stream.f k s = some (streamB s) := by
  have h : pattern_all_by_pattern_Stream_1.f k s = some (streamB s) := by
    unfold pattern_all_by_pattern_Stream_1.f streamB streamL
    by_cases h : s.size ≤ 32
    · have := parts_len s
      rw [if_neg (by omega), bind_of (parts_some s (by omega) k (by omega)), decide_eq_true h, Bool.true_and]
      exact all_stream_l0 (partsP s) (by omega) 32 (by omega) (fun x hx => Nat.le_trans (parts_size s x hx) h) (partsP s).length k 0 (by omega) (by omega)
    · rw [if_pos (by omega), decide_eq_false h, Bool.false_and]
  unfold pattern_Stream.f
  rw [bind_of h]
theorem refstream_l0 (l : List ByteArray) (hl : l.length ≤ 1000000) (M : Nat) (hM : M ≤ 1000) (hz : ∀ x ∈ l, x.size ≤ M) (d : Nat) : ∀ (k i : Nat), i + d = l.length → d + M + 5 ≤ k → surmiseref08_Stream.l0 k l (i : Int) = some ((l.drop i).all plainB && decide (l.length ≤ 4)) := by
  induction d with
  | zero =>
    intro k i hi hk
    obtain ⟨k, rfl⟩ : ∃ k', k = k' + 1 := ⟨k - 1, by omega⟩
    have e : decide ((l.length : Int) ≤ 4) = decide (l.length ≤ 4) := decide_eq_decide.mpr (by omega)
    rw [surmiseref08_Stream.l0, if_neg (by omega), List.drop_eq_nil_of_le (by omega), e]
    rfl
  | succ d ih =>
    intro k i hi hk
    obtain ⟨k, rfl⟩ : ∃ k', k = k' + 1 := ⟨k - 1, by omega⟩
    have hx : l[i].size ≤ M := hz _ (List.getElem_mem _)
    rw [surmiseref08_Stream.l0, if_pos (by omega), if_pos (by omega), rd_at l i (by omega), bind_of (refplain_some l[i] (by omega) k (by omega)), List.drop_eq_getElem_cons (by omega), List.all_cons, wrap_up (by omega) (by omega)]
    cases plainB l[i] with
    | true => rw [if_pos rfl, Bool.true_and]; exact ih k (i + 1) (by omega) (by omega)
    | false => rw [if_neg (by decide), Bool.false_and, Bool.false_and]
theorem refstream_some (s : ByteArray) (k : Nat) (hk : 300 ≤ k) : surmiseref08_Stream.f k s = some (streamB s) := by
  unfold surmiseref08_Stream.f streamB streamL
  by_cases h : s.size ≤ 32
  · have := parts_len s
    rw [if_neg (by omega), bind_of (refparts_some s (by omega) k (by omega)), decide_eq_true h, Bool.true_and]
    exact refstream_l0 (partsP s) (by omega) 32 (by omega) (fun x hx => Nat.le_trans (parts_size s x hx) h) (partsP s).length k 0 (by omega) (by omega)
  · rw [if_pos (by omega), decide_eq_false h, Bool.false_and]

end Go.Proofs.Ytlcgmlfiggkppaa.Q

/- Patterns: which texts are some, by the program and by the reference. -/
namespace Go.Proofs.Ytlcgmlfiggkppaa.Q
open Go.RowKit Go.Proofs.YtlcgmlfiggkppaaW.PrintWords Go.Proofs.YtlcgmlfiggkppaaW.PrintLast Go.Proofs.YtlcgmlfiggkppaaW.PrintMore
set_option linter.unusedVariables false
set_option linter.unusedSimpArgs false

def star : ByteArray := ⟨#[42]⟩
def stars : ByteArray := ⟨#[42, 42]⟩
theorem star_list : star.toList = ([42] : List UInt8) := by decide +kernel
theorem stars_list : stars.toList = ([42, 42] : List UInt8) := by decide +kernel
theorem is_star (x : ByteArray) : x.toList = ([42] : List UInt8) ↔ x = star := by rw [← star_list, toList_iff]
theorem is_stars (x : ByteArray) : x.toList = ([42, 42] : List UInt8) ↔ x = stars := by rw [← stars_list, toList_iff]
instance : DecidableEq ByteArray := fun a b => decidable_of_iff (a.toList = b.toList) toList_iff
def patL : List ByteArray → Bool
  | [] => true
  | x :: l => (plainB x || decide (x = star) || decide (x = stars ∧ l = [])) && patL l
def patternB (s : ByteArray) : Bool := decide (s.size ≤ 32) && (patL (partsP s) && decide ((partsP s).length ≤ 4))
theorem all_pattern_l0 (l : List ByteArray) (hl : l.length ≤ 1000000) (M : Nat) (hM : M ≤ 1000) (hz : ∀ x ∈ l, x.size ≤ M) (d : Nat) : ∀ (k i : Nat), i + d = l.length → d + 3 * M + 5 ≤ k → pattern_all_by_pattern_Pattern_1.l0 k l l (l.length : Int) (i : Int) = some (patL (l.drop i) && decide (l.length ≤ 4)) := by
  induction d with
  | zero =>
    intro k i hi hk
    obtain ⟨k, rfl⟩ : ∃ k', k = k' + 1 := ⟨k - 1, by omega⟩
    have e : decide ((l.length : Int) ≤ 4) = decide (l.length ≤ 4) := decide_eq_decide.mpr (by omega)
    rw [pattern_all_by_pattern_Pattern_1.l0, if_neg (by omega), List.drop_eq_nil_of_le (by omega), e]
    rfl
  | succ d ih =>
    intro k i hi hk
    obtain ⟨k, rfl⟩ : ∃ k', k = k' + 1 := ⟨k - 1, by omega⟩
    have hx : l[i].size ≤ M := hz _ (List.getElem_mem _)
    have hn : l.drop (i + 1) = [] ↔ i + 1 = l.length := by
      rw [List.drop_eq_nil_iff]
      omega
    have hp : pattern_Pattern_1.f k (i : Int) (l.length : Int) l[i] = some (plainB l[i] || decide (l[i] = star) || decide (l[i] = stars ∧ l.drop (i + 1) = [])) := by
      unfold pattern_Pattern_1.f
      rw [bind_of (plain_some l[i] (by omega) k (by omega)), wrap_id (by omega) (by omega)]
      cases plainB l[i] with
      | true => rw [if_pos rfl, Bool.true_or, Bool.true_or]
      | false =>
        rw [if_neg (by decide), Bool.false_or]
        by_cases h1 : l[i] = star
        · rw [if_pos ((is_star _).mpr h1), decide_eq_true h1, Bool.true_or]
        · rw [if_neg (fun h => h1 ((is_star _).mp h)), decide_eq_false h1, Bool.false_or]
          by_cases h2 : l[i] = stars
          · rw [if_pos ((is_stars _).mpr h2)]
            have e : ((i : Int) == (l.length : Int) - 1) = decide (l[i] = stars ∧ l.drop (i + 1) = []) := by
              rw [Bool.eq_iff_iff, beq_iff_eq, decide_eq_true_eq, hn]
              constructor
              · intro h; exact ⟨h2, by omega⟩
              · intro h; omega
            rw [e]
          · rw [if_neg (fun h => h2 ((is_stars _).mp h)), decide_eq_false (fun h => h2 h.1)]
    rw [pattern_all_by_pattern_Pattern_1.l0, if_pos (by omega), if_pos (by omega), if_pos (by omega), rd_at l i (by omega), bind_of hp, (List.drop_eq_getElem_cons (by omega) : l.drop i = l[i] :: l.drop (i + 1)), patL, wrap_up (by omega) (by omega)]
    cases (plainB l[i] || decide (l[i] = star) || decide (l[i] = stars ∧ l.drop (i + 1) = [])) with
    | true => rw [if_pos rfl, Bool.true_and]; exact ih k (i + 1) (by omega) (by omega)
    | false => rw [if_neg (by decide), Bool.false_and, Bool.false_and]
theorem pattern_some (s : ByteArray) (k : Nat) (hk : 300 ≤ k) : pattern_Pattern.f k s = some (patternB s) := by
  have h : pattern_all_by_pattern_Pattern_1.f k s = some (patternB s) := by
    unfold pattern_all_by_pattern_Pattern_1.f patternB
    by_cases h : s.size ≤ 32
    · have := parts_len s
      rw [if_neg (by omega), bind_of (parts_some s (by omega) k (by omega)), decide_eq_true h, Bool.true_and]
      exact all_pattern_l0 (partsP s) (by omega) 32 (by omega) (fun x hx => Nat.le_trans (parts_size s x hx) h) (partsP s).length k 0 (by omega) (by omega)
    · rw [if_pos (by omega), decide_eq_false h, Bool.false_and]
  unfold pattern_Pattern.f
  rw [bind_of h]
theorem refpattern_l0 (l : List ByteArray) (hl : l.length ≤ 1000000) (M : Nat) (hM : M ≤ 1000) (hz : ∀ x ∈ l, x.size ≤ M) (d : Nat) : ∀ (k i : Nat), i + d = l.length → d + M + 5 ≤ k → surmiseref08_Pattern.l0 k l (i : Int) = some (patL (l.drop i) && decide (l.length ≤ 4)) := by
  induction d with
  | zero =>
    intro k i hi hk
    obtain ⟨k, rfl⟩ : ∃ k', k = k' + 1 := ⟨k - 1, by omega⟩
    have e : decide ((l.length : Int) ≤ 4) = decide (l.length ≤ 4) := decide_eq_decide.mpr (by omega)
    rw [surmiseref08_Pattern.l0, if_neg (by omega), List.drop_eq_nil_of_le (by omega), e]
    rfl
  | succ d ih =>
    intro k i hi hk
    obtain ⟨k, rfl⟩ : ∃ k', k = k' + 1 := ⟨k - 1, by omega⟩
    have hx : l[i].size ≤ M := hz _ (List.getElem_mem _)
    have hn : l.drop (i + 1) = [] ↔ i + 1 = l.length := by
      rw [List.drop_eq_nil_iff]
      omega
    have hi1 := ih k (i + 1) (by omega) (by omega)
    rw [surmiseref08_Pattern.l0, if_pos (by omega), if_pos (by omega), rd_at l i (by omega), bind_of (refplain_some l[i] (by omega) k (by omega)), List.drop_eq_getElem_cons (by omega), patL, wrap_up (by omega) (by omega)]
    have e1 : (i : Int) + 1 = ((i + 1 : Nat) : Int) := by omega
    rw [e1, hi1]
    cases plainB l[i] with
    | true => rw [if_pos rfl, Bool.true_or, Bool.true_or, Bool.true_and]
    | false =>
      rw [if_neg (by decide), Bool.false_or]
      by_cases h1 : l[i] = star
      · rw [if_pos ((is_star _).mpr h1), decide_eq_true h1, Bool.true_or, Bool.true_and]
      · rw [if_neg (fun h => h1 ((is_star _).mp h)), decide_eq_false h1, Bool.false_or]
        by_cases h2 : l[i] = stars
        · rw [if_pos ((is_stars _).mpr h2)]
          by_cases h3 : i + 1 < l.length
          · rw [if_pos (by omega), decide_eq_false (fun h => by have := hn.mp h.2; omega), Bool.false_and, Bool.false_and]
          · have hc : l[i] = stars ∧ l.drop (i + 1) = [] := ⟨h2, hn.mpr (by omega)⟩
            rw [if_neg (by omega), decide_eq_true hc, Bool.true_and]
        · rw [if_neg (fun h => h2 ((is_stars _).mp h)), decide_eq_false (fun h => h2 h.1), Bool.false_and, Bool.false_and]
theorem refpattern_some (s : ByteArray) (k : Nat) (hk : 300 ≤ k) : surmiseref08_Pattern.f k s = some (patternB s) := by
  unfold surmiseref08_Pattern.f patternB
  by_cases h : s.size ≤ 32
  · have := parts_len s
    rw [if_neg (by omega), bind_of (refparts_some s (by omega) k (by omega)), decide_eq_true h, Bool.true_and]
    exact refpattern_l0 (partsP s) (by omega) 32 (by omega) (fun x hx => Nat.le_trans (parts_size s x hx) h) (partsP s).length k 0 (by omega) (by omega)
  · rw [if_pos (by omega), decide_eq_false h, Bool.false_and]

end Go.Proofs.Ytlcgmlfiggkppaa.Q

/- A pattern opened; parts held against parts. -/
namespace Go.Proofs.Ytlcgmlfiggkppaa.Q
open Go.RowKit Go.Proofs.YtlcgmlfiggkppaaW.PrintWords Go.Proofs.YtlcgmlfiggkppaaW.PrintLast Go.Proofs.YtlcgmlfiggkppaaW.PrintMore
set_option linter.unusedVariables false
set_option linter.unusedSimpArgs false

/-- Parts but for the last one that stands for any number, and whether there is one. -/
def openL : List ByteArray → List ByteArray × Bool
  | [] => ([], false)
  | [x] => if x = stars then ([], true) else ([x], false)
  | x :: y :: l => (x :: (openL (y :: l)).1, (openL (y :: l)).2)
theorem openL_last (l : List ByteArray) (h : l ≠ []) : openL l = if l.getLast h = stars then (l.take (l.length - 1), true) else (l, false) := by
  induction l with
  | nil => exact absurd rfl h
  | cons x l ih =>
    cases l with
    | nil =>
      show (if x = stars then _ else _) = if x = stars then _ else _
      rfl
    | cons y l =>
      have hy : y :: l ≠ [] := List.cons_ne_nil _ _
      have e : (x :: y :: l).getLast h = (y :: l).getLast hy := List.getLast_cons hy
      rw [openL, ih hy, e]
      by_cases h2 : (y :: l).getLast hy = stars
      · rw [if_pos h2, if_pos h2]
        rfl
      · rw [if_neg h2, if_neg h2]
theorem open_some (s : ByteArray) (hs : s.size ≤ 8796093022000) (k : Nat) (hk : s.size + 1 ≤ k) : pattern_open.f k s = some (openL (partsP s)) := by
  have hl := parts_len s
  unfold pattern_open.f
  rw [bind_of (parts_some s hs k hk)]
  have hne : partsP s ≠ [] := fun h => by rw [h] at hl; simp at hl
  rw [openL_last _ hne]
  generalize partsP s = l at hl hne ⊢
  have e : wrap64 ((l.length : Int) - 1) = ((l.length - 1 : Nat) : Int) := by
    rw [wrap_id (by omega) (by omega)]
    omega
  rw [e, if_pos (by omega), if_pos (by omega), rd_at l (l.length - 1) (by omega), List.getLast_eq_getElem]
  by_cases h : l[l.length - 1] = stars
  · rw [if_pos ((is_stars _).mpr h), if_pos h, if_pos (by omega), Int.toNat_natCast]
  · rw [if_neg (fun h' => h ((is_stars _).mp h')), if_neg h]
/-- Parts held against as many others. -/
def agL (ok : ByteArray → ByteArray → Bool) : List ByteArray → List ByteArray → Bool
  | [], _ => true
  | _ :: _, [] => false
  | x :: a, y :: b => ok x y && agL ok a b
def okM (x y : ByteArray) : Bool := decide (x = star) || decide (x = y)

end Go.Proofs.Ytlcgmlfiggkppaa.Q

/- Parts held against parts, for the three tests. -/
namespace Go.Proofs.Ytlcgmlfiggkppaa.Q
open Go.RowKit Go.Proofs.YtlcgmlfiggkppaaW.PrintWords Go.Proofs.YtlcgmlfiggkppaaW.PrintLast Go.Proofs.YtlcgmlfiggkppaaW.PrintMore
set_option linter.unusedVariables false
set_option linter.unusedSimpArgs false

theorem agM_one (x y : ByteArray) : pattern_Match_1.f x y = some (okM x y) := by
  unfold pattern_Match_1.f okM
  by_cases h : x = star
  · rw [if_pos ((is_star _).mpr h), decide_eq_true h, Bool.true_or]
  · rw [if_neg (fun h' => h ((is_star _).mp h')), decide_eq_false h, Bool.false_or]
    have e : (x.toList == y.toList) = decide (x = y) := by rw [Bool.eq_iff_iff, beq_iff_eq, decide_eq_true_eq, toList_iff]
    rw [e]
theorem agM_l0 (a b : List ByteArray) (ha : a.length ≤ 1000000) (d : Nat) : ∀ (k i : Nat), i + d = a.length → i ≤ b.length → d + 1 ≤ k → pattern_against_by_pattern_Match_1.l0 k b a (a.length : Int) (i : Int) = some (agL okM (a.drop i) (b.drop i)) := by
  induction d with
  | zero =>
    intro k i hi hb hk
    obtain ⟨k, rfl⟩ : ∃ k', k = k' + 1 := ⟨k - 1, by omega⟩
    have e : a.drop i = [] := List.drop_eq_nil_of_le (by omega)
    rw [pattern_against_by_pattern_Match_1.l0, if_neg (by omega), e, agL]
  | succ d ih =>
    intro k i hi hb hk
    obtain ⟨k, rfl⟩ : ∃ k', k = k' + 1 := ⟨k - 1, by omega⟩
    have ea : a.drop i = a[i] :: a.drop (i + 1) := List.drop_eq_getElem_cons (by omega)
    rw [pattern_against_by_pattern_Match_1.l0, if_pos (by omega), if_pos (by omega), if_pos (by omega), ea]
    by_cases h : i < b.length
    · have eb : b.drop i = b[i] :: b.drop (i + 1) := List.drop_eq_getElem_cons (by omega)
      rw [if_neg (by omega), if_pos (by omega), rd_at a i (by omega), rd_at b i h, bind_of (agM_one a[i] b[i]), eb, agL, wrap_up (by omega) (by omega)]
      cases okM a[i] b[i] with
      | true => rw [if_pos rfl, Bool.true_and]; exact ih k (i + 1) (by omega) (by omega) (by omega)
      | false => rw [if_neg (by decide), Bool.false_and]
    · have eb : b.drop i = [] := List.drop_eq_nil_of_le (by omega)
      rw [if_pos (by omega), eb, agL]
theorem agM_some (a b : List ByteArray) (ha : a.length ≤ 1000000) (k : Nat) (hk : a.length + 1 ≤ k) : pattern_against_by_pattern_Match_1.f k a b = some (agL okM a b) := by
  have := agM_l0 a b ha a.length k 0 (by omega) (by omega) hk
  rw [List.drop_zero, List.drop_zero] at this
  exact this
theorem agC_one (x y : ByteArray) : pattern_Covers_1.f x y = some (okM x y) := by
  unfold pattern_Covers_1.f okM
  by_cases h : x = star
  · rw [if_pos ((is_star _).mpr h), decide_eq_true h, Bool.true_or]
  · rw [if_neg (fun h' => h ((is_star _).mp h')), decide_eq_false h, Bool.false_or]
    have e : (x.toList == y.toList) = decide (x = y) := by rw [Bool.eq_iff_iff, beq_iff_eq, decide_eq_true_eq, toList_iff]
    rw [e]
theorem agC_l0 (a b : List ByteArray) (ha : a.length ≤ 1000000) (d : Nat) : ∀ (k i : Nat), i + d = a.length → i ≤ b.length → d + 1 ≤ k → pattern_against_by_pattern_Covers_1.l0 k b a (a.length : Int) (i : Int) = some (agL okM (a.drop i) (b.drop i)) := by
  induction d with
  | zero =>
    intro k i hi hb hk
    obtain ⟨k, rfl⟩ : ∃ k', k = k' + 1 := ⟨k - 1, by omega⟩
    have e : a.drop i = [] := List.drop_eq_nil_of_le (by omega)
    rw [pattern_against_by_pattern_Covers_1.l0, if_neg (by omega), e, agL]
  | succ d ih =>
    intro k i hi hb hk
    obtain ⟨k, rfl⟩ : ∃ k', k = k' + 1 := ⟨k - 1, by omega⟩
    have ea : a.drop i = a[i] :: a.drop (i + 1) := List.drop_eq_getElem_cons (by omega)
    rw [pattern_against_by_pattern_Covers_1.l0, if_pos (by omega), if_pos (by omega), if_pos (by omega), ea]
    by_cases h : i < b.length
    · have eb : b.drop i = b[i] :: b.drop (i + 1) := List.drop_eq_getElem_cons (by omega)
      rw [if_neg (by omega), if_pos (by omega), rd_at a i (by omega), rd_at b i h, bind_of (agC_one a[i] b[i]), eb, agL, wrap_up (by omega) (by omega)]
      cases okM a[i] b[i] with
      | true => rw [if_pos rfl, Bool.true_and]; exact ih k (i + 1) (by omega) (by omega) (by omega)
      | false => rw [if_neg (by decide), Bool.false_and]
    · have eb : b.drop i = [] := List.drop_eq_nil_of_le (by omega)
      rw [if_pos (by omega), eb, agL]
theorem agC_some (a b : List ByteArray) (ha : a.length ≤ 1000000) (k : Nat) (hk : a.length + 1 ≤ k) : pattern_against_by_pattern_Covers_1.f k a b = some (agL okM a b) := by
  have := agC_l0 a b ha a.length k 0 (by omega) (by omega) hk
  rw [List.drop_zero, List.drop_zero] at this
  exact this
def okX (x y : ByteArray) : Bool := decide (x = star) || decide (y = star) || decide (x = y)
theorem agX_one (x y : ByteArray) : pattern_Meets_1.f x y = some (okX x y) := by
  unfold pattern_Meets_1.f okX
  by_cases h : x = star
  · rw [if_pos ((is_star _).mpr h), decide_eq_true h, Bool.true_or, Bool.true_or]
  · rw [if_neg (fun h' => h ((is_star _).mp h')), decide_eq_false h, Bool.false_or]
    by_cases h2 : y = star
    · rw [if_pos ((is_star _).mpr h2), decide_eq_true h2, Bool.true_or]
    · rw [if_neg (fun h' => h2 ((is_star _).mp h')), decide_eq_false h2, Bool.false_or]
      have e : (x.toList == y.toList) = decide (x = y) := by rw [Bool.eq_iff_iff, beq_iff_eq, decide_eq_true_eq, toList_iff]
      rw [e]
theorem agX_l0 (a b : List ByteArray) (ha : a.length ≤ 1000000) (d : Nat) : ∀ (k i : Nat), i + d = a.length → i ≤ b.length → d + 1 ≤ k → pattern_against_by_pattern_Meets_1.l0 k b a (a.length : Int) (i : Int) = some (agL okX (a.drop i) (b.drop i)) := by
  induction d with
  | zero =>
    intro k i hi hb hk
    obtain ⟨k, rfl⟩ : ∃ k', k = k' + 1 := ⟨k - 1, by omega⟩
    have e : a.drop i = [] := List.drop_eq_nil_of_le (by omega)
    rw [pattern_against_by_pattern_Meets_1.l0, if_neg (by omega), e, agL]
  | succ d ih =>
    intro k i hi hb hk
    obtain ⟨k, rfl⟩ : ∃ k', k = k' + 1 := ⟨k - 1, by omega⟩
    have ea : a.drop i = a[i] :: a.drop (i + 1) := List.drop_eq_getElem_cons (by omega)
    rw [pattern_against_by_pattern_Meets_1.l0, if_pos (by omega), if_pos (by omega), if_pos (by omega), ea]
    by_cases h : i < b.length
    · have eb : b.drop i = b[i] :: b.drop (i + 1) := List.drop_eq_getElem_cons (by omega)
      rw [if_neg (by omega), if_pos (by omega), rd_at a i (by omega), rd_at b i h, bind_of (agX_one a[i] b[i]), eb, agL, wrap_up (by omega) (by omega)]
      cases okX a[i] b[i] with
      | true => rw [if_pos rfl, Bool.true_and]; exact ih k (i + 1) (by omega) (by omega) (by omega)
      | false => rw [if_neg (by decide), Bool.false_and]
    · have eb : b.drop i = [] := List.drop_eq_nil_of_le (by omega)
      rw [if_pos (by omega), eb, agL]
theorem agX_some (a b : List ByteArray) (ha : a.length ≤ 1000000) (k : Nat) (hk : a.length + 1 ≤ k) : pattern_against_by_pattern_Meets_1.f k a b = some (agL okX a b) := by
  have := agX_l0 a b ha a.length k 0 (by omega) (by omega) hk
  rw [List.drop_zero, List.drop_zero] at this
  exact this

end Go.Proofs.Ytlcgmlfiggkppaa.Q
