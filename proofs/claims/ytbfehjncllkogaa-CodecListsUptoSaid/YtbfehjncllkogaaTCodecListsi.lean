/- Texts of this session laid together (shrink.py): what the claim's law rests on. -/
import Derived.Below
import Derived.Deep.Draws
import Derived.Deep.AppendLies
import Derived.Maps.AppendAt
import Derived.OwnWalk
import Derived.Laws.BytesArg
import Derived.Laws.MakeOwn
import Derived.Laws.OwnMore
import Derived.Deep.OwnRows
import Derived.Tactics
import Derived.Lib.ConvBytes
import Derived.Laws.Slices
import Derived.WalkKit
import Derived.KernelRfl
import Derived.RowKit3
import Derived.Deep.LoopGhost
import Derived.Deep.QuietTactic
import Derived.BigQuiet
import Derived.WideLaws
import Derived.Deep.DeepCutAuto
import Derived.Deep.CutBlock
import Derived.Deep.RegionHeld3
import Derived.Laws.Rows
import Derived.Lib.AppendStr
import Derived.ArgAppend
import Derived.Laws.IdiomCopy
import Derived.RowKit
import Derived.OrdersHeld
import Derived.Laws.BitsLemmas
import Derived.Laws.StructEq
import Derived.Test.YtbfehjncllkogaaProg
import Derived.WalkMore
import Derived.Lib.Strings
import Derived.Outline
import Derived.ChangeArms
import Derived.Deep.Slices
import Derived.SizedLaws
import Derived.Test.YtbfehjncllkogaaRows
import Derived.Test.YtbfehjncllkogaaTCodecListsh
set_option linter.unusedVariables false
set_option linter.unusedSimpArgs false
set_option maxRecDepth 100000
set_option maxHeartbeats 8000000
namespace Go.Proofs.Ytbfehjncllkogaa.Q
open Go.RowKit Go.Proofs.YtbfehjncllkogaaW.PrintWords Go.Proofs.YtbfehjncllkogaaW.PrintLast Go.Proofs.YtbfehjncllkogaaW.PrintMore
attribute [local go_sem] max2_int min2_int max_two min_two max_three min_three max_four min_four
def surmiselaw10_CodecLists.j0 : Nat → List (S93) → List (S97) → List ByteArray → ByteArray → Int → ByteArray → Int → ByteArray → Int → Bool → Option (Bool)
 | 0, _, _, _, _, _, _, _, _, _, _ => none
 | k + 1, x0, x1, x2, x7, x8, x9, x10, x11, x12, x40 => if x40 = true then ((surmiselaw10_awake.f k).bind fun t470 => (if t470 = true then (if x8 = 2 then (some true) else (some (decide ((x0.length : Int) ≤ 64)))) else (some (decide ((x0.length : Int) ≤ 64))))) else ((surmiselaw10_awake.f k).bind fun t471 => (if t471 = true then ((surmiseref10_Items.f k x0).bind fun t472 => ((surmiseref10_LayItems.f k x0).bind fun t473 => ((surmiselaw10_laid.f x7 x8 t472 t473).bind fun t474 => (if t474 = true then ((surmiseref10_Verdicts.f k x1).bind fun t475 => ((surmiseref10_LayVerdicts.f k x1).bind fun t476 => ((surmiselaw10_laid.f x9 x10 t475 t476).bind fun t477 => (if t477 = true then ((surmiseref09_Right.f k x2).bind fun t478 => ((surmiseref10_LayFilter.f k x2).bind fun t479 => ((surmiselaw10_laid.f x11 x12 t478 t479).bind fun t480 => (some t480)))) else (some false))))) else (some false))))) else (some false)))
def surmiselaw10_CodecLists.f (k : Nat) (l0 : List (S93)) (l1 : List (S97)) (l2 : List ByteArray) : Option (Bool) := (codec_PutItems.f k l0).bind fun bt464 => ((codec_PutVerdicts.f k l1).bind fun bt466 => ((codec_PutFilter.f k l2).bind fun bt468 => (if (l0.length : Int) > 80 then (surmiselaw10_CodecLists.j0 k l0 l1 l2 bt464.1 bt464.2 bt466.1 bt466.2 bt468.1 bt468.2 true) else (if (l1.length : Int) > 80 then (surmiselaw10_CodecLists.j0 k l0 l1 l2 bt464.1 bt464.2 bt466.1 bt466.2 bt468.1 bt468.2 true) else (surmiselaw10_CodecLists.j0 k l0 l1 l2 bt464.1 bt464.2 bt466.1 bt466.2 bt468.1 bt468.2 (decide ((l2.length : Int) > 20)))))))
theorem surmiselaw10_CodecLists.calls (k : Nat) (A0 : Option Addr) (c0 : Nat) (l0 : List (S93)) (A1 : Option Addr) (c1 : Nat) (l1 : List (S97)) (A2 : Option Addr) (c2 : Nat) (l2 : List ByteArray) (r : Bool) (w : World) (hr0 : Kd.C k93 w A0 l0.length l0) (hc0 : l0.length ≤ c0) (hr1 : Kd.C k97 w A1 l1.length l1) (hc1 : l1.length ≤ c1) (hr2 : Kd.C Kd.string w A2 l2.length l2) (hc2 : l2.length ≤ c2) (h : surmiselaw10_CodecLists.f k l0 l1 l2 = some r) :
  Calls Try.prog 4 #[.slice A0 l0.length c0, .slice A1 l1.length c1, .slice A2 l2.length c2] w fun e w' => e = .returned (.bool r) ∧ Below w.heap.size w w' := by
 have HR0 := Aside0.mk hr0
 have HC0 := Aside0.mk hc0
 clear hr0 hc0
 have HR1 := Aside0.mk hr1
 have HC1 := Aside0.mk hc1
 clear hr1 hc1
 have HR2 := Aside0.mk hr2
 have HC2 := Aside0.mk hc2
 clear hr2 hc2
 have HB := Aside0.mk (Below.refl w.heap.size w)
 have H : ((codec_PutItems.f k l0).bind fun bt464 => ((codec_PutVerdicts.f k l1).bind fun bt466 => ((codec_PutFilter.f k l2).bind fun bt468 => (if (l0.length : Int) > 80 then (surmiselaw10_CodecLists.j0 k l0 l1 l2 bt464.1 bt464.2 bt466.1 bt466.2 bt468.1 bt468.2 true) else (if (l1.length : Int) > 80 then (surmiselaw10_CodecLists.j0 k l0 l1 l2 bt464.1 bt464.2 bt466.1 bt466.2 bt468.1 bt468.2 true) else (surmiselaw10_CodecLists.j0 k l0 l1 l2 bt464.1 bt464.2 bt466.1 bt466.2 bt468.1 bt468.2 (decide ((l2.length : Int) > 20)))))))) = some r := h
 clear h
 replace H := Option.bind_eq_some_iff.mp H
 obtain ⟨⟨t464, t465⟩, A40, H⟩ := H
 replace H : ((codec_PutVerdicts.f k l1).bind fun bt466 => ((codec_PutFilter.f k l2).bind fun bt468 => (if (l0.length : Int) > 80 then (surmiselaw10_CodecLists.j0 k l0 l1 l2 t464 t465 bt466.1 bt466.2 bt468.1 bt468.2 true) else (if (l1.length : Int) > 80 then (surmiselaw10_CodecLists.j0 k l0 l1 l2 t464 t465 bt466.1 bt466.2 bt468.1 bt468.2 true) else (surmiselaw10_CodecLists.j0 k l0 l1 l2 t464 t465 bt466.1 bt466.2 bt468.1 bt468.2 (decide ((l2.length : Int) > 20))))))) = some r := H
 have A4 := Aside0.mk A40
 clear A40
 replace H := Option.bind_eq_some_iff.mp H
 obtain ⟨⟨t466, t467⟩, A50, H⟩ := H
 replace H : ((codec_PutFilter.f k l2).bind fun bt468 => (if (l0.length : Int) > 80 then (surmiselaw10_CodecLists.j0 k l0 l1 l2 t464 t465 t466 t467 bt468.1 bt468.2 true) else (if (l1.length : Int) > 80 then (surmiselaw10_CodecLists.j0 k l0 l1 l2 t464 t465 t466 t467 bt468.1 bt468.2 true) else (surmiselaw10_CodecLists.j0 k l0 l1 l2 t464 t465 t466 t467 bt468.1 bt468.2 (decide ((l2.length : Int) > 20)))))) = some r := H
 have A5 := Aside0.mk A50
 clear A50
 replace H := Option.bind_eq_some_iff.mp H
 obtain ⟨⟨t468, t469⟩, A60, H⟩ := H
 replace H : (if (l0.length : Int) > 80 then (surmiselaw10_CodecLists.j0 k l0 l1 l2 t464 t465 t466 t467 t468 t469 true) else (if (l1.length : Int) > 80 then (surmiselaw10_CodecLists.j0 k l0 l1 l2 t464 t465 t466 t467 t468 t469 true) else (surmiselaw10_CodecLists.j0 k l0 l1 l2 t464 t465 t466 t467 t468 t469 (decide ((l2.length : Int) > 20))))) = some r := H
 have A6 := Aside0.mk A60
 clear A60
 have HC7 := Aside0.mk H
 clear H
 go_enter Try.func4, Try.ntmps4
 go_upto_region 4 with (first | ((with_reducible refine gate_callee (f := 19) rfl ?_); refine goesL_ (some 15) rfl rfl Try.func19 (by kernel_rfl) rfl #[.slice A0 l0.length c0] rfl (by (try simp only [List.map_toArray, List.map_cons, List.map_nil]); first | done | rfl | (simp only [List.length_drop, List.length_take]; rfl)) ?_; (with_reducible refine (codec_PutItems.calls k _ _ l0 t464 t465 _ ?side1 ?side2 A4.out).mono ?_); (case side1 => repeat (first | exact HR0.out | (with_reducible refine Kd.C_alloc ?_ _) | (with_reducible refine Kd.C_drewN ?_ _) | (with_reducible refine Kd.C_drew ?_))); (case side2 => exact HC0.out); rintro e w8 ⟨rfl, hb⟩; refine ⟨_, rfl, ?_⟩; have n0_ := Aside0.mk (below_step (by repeat (first | (with_reducible first | exact HB.out | apply below_alloc | apply pw_below_drewN | apply below_drew1) | exact HB.out)) hb); clear HB; have HB := n0_; clear n0_; (try clear hb); (try clear hb2); (try clear hk); (try clear hi)) | ((with_reducible refine gate_callee (f := 20) rfl ?_); refine goesL_ (some 20) rfl rfl Try.func20 (by kernel_rfl) rfl #[.slice A1 l1.length c1] rfl (by (try simp only [List.map_toArray, List.map_cons, List.map_nil]); first | done | rfl | (simp only [List.length_drop, List.length_take]; rfl)) ?_; (with_reducible refine (codec_PutVerdicts.calls k _ _ l1 t466 t467 _ ?side1 ?side2 A5.out).mono ?_); (case side1 => repeat (first | exact (Kd.C_below HR1.out HB.out) | (with_reducible refine Kd.C_alloc ?_ _) | (with_reducible refine Kd.C_drewN ?_ _) | (with_reducible refine Kd.C_drew ?_))); (case side2 => exact HC1.out); rintro e w9 ⟨rfl, hb⟩; refine ⟨_, rfl, ?_⟩; have n0_ := Aside0.mk (below_step (by repeat (first | (with_reducible first | exact HB.out | apply below_alloc | apply pw_below_drewN | apply below_drew1) | exact HB.out)) hb); clear HB; have HB := n0_; clear n0_; (try clear hb); (try clear hb2); (try clear hk); (try clear hi)) | ((with_reducible refine gate_callee (f := 21) rfl ?_); refine goesL_ (some 25) rfl rfl Try.func21 (by kernel_rfl) rfl #[.slice A2 l2.length c2] rfl (by (try simp only [List.map_toArray, List.map_cons, List.map_nil]); first | done | rfl | (simp only [List.length_drop, List.length_take]; rfl)) ?_; (with_reducible refine (codec_PutFilter.calls k _ _ l2 t468 t469 _ ?side1 ?side2 A6.out).mono ?_); (case side1 => repeat (first | exact (Kd.C_below HR2.out HB.out) | (with_reducible refine Kd.C_alloc ?_ _) | (with_reducible refine Kd.C_drewN ?_ _) | (with_reducible refine Kd.C_drew ?_))); (case side2 => exact HC2.out); rintro e w10 ⟨rfl, hb⟩; refine ⟨_, rfl, ?_⟩; have n0_ := Aside0.mk (below_step (by repeat (first | (with_reducible first | exact HB.out | apply below_alloc | apply pw_below_drewN | apply below_drew1) | exact HB.out)) hb); clear HB; have HB := n0_; clear n0_; (try clear hb); (try clear hb2); (try clear hk); (try clear hi)))
 (try simp only [Act.put, List.setIfInBounds_toArray, List.set_cons_zero, List.set_cons_succ])
 go_cut [40] (fun v40 wc => ∃ (kq : Nat) (x40_6 : Bool), v40 = .bool x40_6 ∧ Aside0 (surmiselaw10_CodecLists.j0 kq l0 l1 l2 t464 t465 t466 t467 t468 t469 x40_6 = some r) ∧ Aside0 (kq ≤ k) ∧ Aside0 (Below w.heap.size w wc))
 case first =>
  have H := HC7.out
  clear HC7
  by_cases c11 : (l0.length : Int) > 80
  ·rw [if_pos c11] at H
   have c11b0 : decide (80 < (l0.length : Int)) = true := decide_eq_true c11
   have c11b1 : decide (80 < l0.length) = true := decide_eq_true (by omega)
   clear c11
   (first | rw [c11b0] | (simp only [i64_w, i32_w]; rw [c11b0]) | skip)
   have H' := Aside0.mk H
   clear H
   go_wp2
   go_meet
   case rel => exact ⟨_, (true), (by first | rfl | (simp; done) | (simp [*]; done)), H', ⟨by first | omega | exact Nat.le_refl _⟩, ⟨by repeat (first | (with_reducible first | exact HB.out | apply below_alloc | apply pw_below_drewN | apply below_drew1) | exact HB.out)⟩⟩
  ·rw [if_neg c11] at H
   have c11b0 : decide (80 < (l0.length : Int)) = false := decide_eq_false c11
   have c11b1 : decide (80 < l0.length) = false := decide_eq_false (by omega)
   clear c11
   (first | rw [c11b0] | (simp only [i64_w, i32_w]; rw [c11b0]) | skip)
   by_cases c12 : (l1.length : Int) > 80
   ·rw [if_pos c12] at H
    have c12b0 : decide (80 < (l1.length : Int)) = true := decide_eq_true c12
    have c12b1 : decide (80 < l1.length) = true := decide_eq_true (by omega)
    clear c12
    have H' := Aside0.mk H
    clear H
    go_wp2
    go_meet
    case rel => exact ⟨_, (true), (by first | rfl | (simp; done) | (simp [*]; done)), H', ⟨by first | omega | exact Nat.le_refl _⟩, ⟨by repeat (first | (with_reducible first | exact HB.out | apply below_alloc | apply pw_below_drewN | apply below_drew1) | exact HB.out)⟩⟩
   ·rw [if_neg c12] at H
    have c12b0 : decide (80 < (l1.length : Int)) = false := decide_eq_false c12
    have c12b1 : decide (80 < l1.length) = false := decide_eq_false (by omega)
    clear c12
    have H' := Aside0.mk H
    clear H
    go_wp2
    go_meet
    case rel => exact ⟨_, (decide ((l2.length : Int) > 20)), (by first | rfl | (simp; done) | (simp [*]; done)), H', ⟨by first | omega | exact Nat.le_refl _⟩, ⟨by repeat (first | (with_reducible first | exact HB.out | apply below_alloc | apply pw_below_drewN | apply below_drew1) | exact HB.out)⟩⟩
 case rest =>
  clear HC7
  try clear c1
  try clear c2
  try clear p2
  try clear c4
  try clear c11
  try clear c11b0
  try clear c11b1
  try clear c12
  try clear c12b0
  try clear c12b1
  obtain ⟨kq, x40_6, rfl, HA, HJ6, HB⟩ := hcut
  cases kq with
  | zero => exact absurd HA.out (by simp [surmiselaw10_CodecLists.j0])
  | succ kj6 =>
   have H := HA.out
   clear HA
   simp only [surmiselaw10_CodecLists.j0] at H
   by_cases c13 : x40_6 = true
   ·subst c13
    have H1 : ((surmiselaw10_awake.f kj6).bind fun t470 => (if t470 = true then (if t465 = 2 then (some true) else (some (decide ((l0.length : Int) ≤ 64)))) else (some (decide ((l0.length : Int) ≤ 64))))) = some r := by rw [if_pos rfl] at H; exact H
    clear H
    have H := H1
    clear H1
    replace H := Option.bind_eq_some_iff.mp H
    obtain ⟨t470, A140, H⟩ := H
    replace H : (if t470 = true then (if t465 = 2 then (some true) else (some (decide ((l0.length : Int) ≤ 64)))) else (some (decide ((l0.length : Int) ≤ 64)))) = some r := H
    have A14 := Aside0.mk A140
    clear A140
    by_cases c15 : t470 = true
    ·subst c15
     have H1 : (if t465 = 2 then (some true) else (some (decide ((l0.length : Int) ≤ 64)))) = some r := by rw [if_pos rfl] at H; exact H
     clear H
     have H := H1
     clear H1
     by_cases c16 : t465 = 2
     ·rw [if_pos c16] at H
      have c16b0 : (t465 == 2) = true := beq_iff_eq.mpr c16
      have c16b1 : (t465 != 2) = false := bne_eq_false_iff_eq.mpr c16
      clear c16
      obtain rfl := Option.some.inj H
      go_wp2_with (first | ((with_reducible refine gate_callee (f := 11) rfl ?_); refine goesL_ (some 41) rfl rfl Try.func11 (by kernel_rfl) rfl #[] rfl (by (try simp only [List.map_toArray, List.map_cons, List.map_nil]); first | done | rfl | (simp only [List.length_drop, List.length_take]; rfl)) ?_; (with_reducible refine (surmiselaw10_awake.calls kj6  true _ A14.out).mono ?_); rintro e w17 ⟨rfl, hb⟩; refine ⟨_, rfl, ?_⟩; have n0_ := Aside0.mk (below_step (by repeat (first | (with_reducible first | exact HB.out | apply below_alloc | apply pw_below_drewN | apply below_drew1) | exact HB.out)) hb); clear HB; have HB := n0_; clear n0_; (try clear hb); (try clear hb2); (try clear hk); (try clear hi)))
      go_ret
      exact ⟨by first | rfl | (simp [errW_none, errW_some] <;> rfl) | (simp [*, errW_none, errW_some] <;> rfl), by repeat (first | (with_reducible first | exact HB.out | apply below_alloc | apply pw_below_drewN | apply below_drew1) | exact HB.out)⟩
     ·rw [if_neg c16] at H
      have c16b0 : (t465 == 2) = false := beq_eq_false_iff_ne.mpr c16
      have c16b1 : (t465 != 2) = true := bne_iff_ne.mpr c16
      obtain rfl := Option.some.inj H
      go_wp2_with (first | ((with_reducible refine gate_callee (f := 11) rfl ?_); refine goesL_ (some 41) rfl rfl Try.func11 (by kernel_rfl) rfl #[] rfl (by (try simp only [List.map_toArray, List.map_cons, List.map_nil]); first | done | rfl | (simp only [List.length_drop, List.length_take]; rfl)) ?_; (with_reducible refine (surmiselaw10_awake.calls kj6  true _ A14.out).mono ?_); rintro e w18 ⟨rfl, hb⟩; refine ⟨_, rfl, ?_⟩; have n0_ := Aside0.mk (below_step (by repeat (first | (with_reducible first | exact HB.out | apply below_alloc | apply pw_below_drewN | apply below_drew1) | exact HB.out)) hb); clear HB; have HB := n0_; clear n0_; (try clear hb); (try clear hb2); (try clear hk); (try clear hi)))
      go_ret
      exact ⟨by first | rfl | (simp [errW_none, errW_some] <;> rfl) | (simp [*, errW_none, errW_some] <;> rfl), by repeat (first | (with_reducible first | exact HB.out | apply below_alloc | apply pw_below_drewN | apply below_drew1) | exact HB.out)⟩
    ·replace c15 := Bool.eq_false_iff.mpr c15
     subst c15
     have H1 : (some (decide ((l0.length : Int) ≤ 64))) = some r := by rw [if_neg (show ¬ (false = true) by decide)] at H; exact H
     clear H
     have H := H1
     clear H1
     obtain rfl := Option.some.inj H
     go_wp2_with (first | ((with_reducible refine gate_callee (f := 11) rfl ?_); refine goesL_ (some 41) rfl rfl Try.func11 (by kernel_rfl) rfl #[] rfl (by (try simp only [List.map_toArray, List.map_cons, List.map_nil]); first | done | rfl | (simp only [List.length_drop, List.length_take]; rfl)) ?_; (with_reducible refine (surmiselaw10_awake.calls kj6  false _ A14.out).mono ?_); rintro e w19 ⟨rfl, hb⟩; refine ⟨_, rfl, ?_⟩; have n0_ := Aside0.mk (below_step (by repeat (first | (with_reducible first | exact HB.out | apply below_alloc | apply pw_below_drewN | apply below_drew1) | exact HB.out)) hb); clear HB; have HB := n0_; clear n0_; (try clear hb); (try clear hb2); (try clear hk); (try clear hi)))
     go_ret
     exact ⟨by first | rfl | (simp [errW_none, errW_some] <;> rfl) | (simp [*, errW_none, errW_some] <;> rfl), by repeat (first | (with_reducible first | exact HB.out | apply below_alloc | apply pw_below_drewN | apply below_drew1) | exact HB.out)⟩
   ·replace c13 := Bool.eq_false_iff.mpr c13
    subst c13
    have H1 : ((surmiselaw10_awake.f kj6).bind fun t471 => (if t471 = true then ((surmiseref10_Items.f kj6 l0).bind fun t472 => ((surmiseref10_LayItems.f kj6 l0).bind fun t473 => ((surmiselaw10_laid.f t464 t465 t472 t473).bind fun t474 => (if t474 = true then ((surmiseref10_Verdicts.f kj6 l1).bind fun t475 => ((surmiseref10_LayVerdicts.f kj6 l1).bind fun t476 => ((surmiselaw10_laid.f t466 t467 t475 t476).bind fun t477 => (if t477 = true then ((surmiseref09_Right.f kj6 l2).bind fun t478 => ((surmiseref10_LayFilter.f kj6 l2).bind fun t479 => ((surmiselaw10_laid.f t468 t469 t478 t479).bind fun t480 => (some t480)))) else (some false))))) else (some false))))) else (some false))) = some r := by rw [if_neg (show ¬ (false = true) by decide)] at H; exact H
    clear H
    have H := H1
    clear H1
    replace H := Option.bind_eq_some_iff.mp H
    obtain ⟨t471, A200, H⟩ := H
    replace H : (if t471 = true then ((surmiseref10_Items.f kj6 l0).bind fun t472 => ((surmiseref10_LayItems.f kj6 l0).bind fun t473 => ((surmiselaw10_laid.f t464 t465 t472 t473).bind fun t474 => (if t474 = true then ((surmiseref10_Verdicts.f kj6 l1).bind fun t475 => ((surmiseref10_LayVerdicts.f kj6 l1).bind fun t476 => ((surmiselaw10_laid.f t466 t467 t475 t476).bind fun t477 => (if t477 = true then ((surmiseref09_Right.f kj6 l2).bind fun t478 => ((surmiseref10_LayFilter.f kj6 l2).bind fun t479 => ((surmiselaw10_laid.f t468 t469 t478 t479).bind fun t480 => (some t480)))) else (some false))))) else (some false))))) else (some false)) = some r := H
    have A20 := Aside0.mk A200
    clear A200
    by_cases c21 : t471 = true
    ·subst c21
     have H1 : ((surmiseref10_Items.f kj6 l0).bind fun t472 => ((surmiseref10_LayItems.f kj6 l0).bind fun t473 => ((surmiselaw10_laid.f t464 t465 t472 t473).bind fun t474 => (if t474 = true then ((surmiseref10_Verdicts.f kj6 l1).bind fun t475 => ((surmiseref10_LayVerdicts.f kj6 l1).bind fun t476 => ((surmiselaw10_laid.f t466 t467 t475 t476).bind fun t477 => (if t477 = true then ((surmiseref09_Right.f kj6 l2).bind fun t478 => ((surmiseref10_LayFilter.f kj6 l2).bind fun t479 => ((surmiselaw10_laid.f t468 t469 t478 t479).bind fun t480 => (some t480)))) else (some false))))) else (some false))))) = some r := by rw [if_pos rfl] at H; exact H
     clear H
     have H := H1
     clear H1
     replace H := Option.bind_eq_some_iff.mp H
     obtain ⟨t472, A220, H⟩ := H
     replace H : ((surmiseref10_LayItems.f kj6 l0).bind fun t473 => ((surmiselaw10_laid.f t464 t465 t472 t473).bind fun t474 => (if t474 = true then ((surmiseref10_Verdicts.f kj6 l1).bind fun t475 => ((surmiseref10_LayVerdicts.f kj6 l1).bind fun t476 => ((surmiselaw10_laid.f t466 t467 t475 t476).bind fun t477 => (if t477 = true then ((surmiseref09_Right.f kj6 l2).bind fun t478 => ((surmiseref10_LayFilter.f kj6 l2).bind fun t479 => ((surmiselaw10_laid.f t468 t469 t478 t479).bind fun t480 => (some t480)))) else (some false))))) else (some false)))) = some r := H
     have A22 := Aside0.mk A220
     clear A220
     replace H := Option.bind_eq_some_iff.mp H
     obtain ⟨t473, A230, H⟩ := H
     replace H : ((surmiselaw10_laid.f t464 t465 t472 t473).bind fun t474 => (if t474 = true then ((surmiseref10_Verdicts.f kj6 l1).bind fun t475 => ((surmiseref10_LayVerdicts.f kj6 l1).bind fun t476 => ((surmiselaw10_laid.f t466 t467 t475 t476).bind fun t477 => (if t477 = true then ((surmiseref09_Right.f kj6 l2).bind fun t478 => ((surmiseref10_LayFilter.f kj6 l2).bind fun t479 => ((surmiselaw10_laid.f t468 t469 t478 t479).bind fun t480 => (some t480)))) else (some false))))) else (some false))) = some r := H
     have A23 := Aside0.mk A230
     clear A230
     replace H := Option.bind_eq_some_iff.mp H
     obtain ⟨t474, A240, H⟩ := H
     replace H : (if t474 = true then ((surmiseref10_Verdicts.f kj6 l1).bind fun t475 => ((surmiseref10_LayVerdicts.f kj6 l1).bind fun t476 => ((surmiselaw10_laid.f t466 t467 t475 t476).bind fun t477 => (if t477 = true then ((surmiseref09_Right.f kj6 l2).bind fun t478 => ((surmiseref10_LayFilter.f kj6 l2).bind fun t479 => ((surmiselaw10_laid.f t468 t469 t478 t479).bind fun t480 => (some t480)))) else (some false))))) else (some false)) = some r := H
     have A24 := Aside0.mk A240
     clear A240
     by_cases c25 : t474 = true
     ·subst c25
      have H1 : ((surmiseref10_Verdicts.f kj6 l1).bind fun t475 => ((surmiseref10_LayVerdicts.f kj6 l1).bind fun t476 => ((surmiselaw10_laid.f t466 t467 t475 t476).bind fun t477 => (if t477 = true then ((surmiseref09_Right.f kj6 l2).bind fun t478 => ((surmiseref10_LayFilter.f kj6 l2).bind fun t479 => ((surmiselaw10_laid.f t468 t469 t478 t479).bind fun t480 => (some t480)))) else (some false))))) = some r := by rw [if_pos rfl] at H; exact H
      clear H
      have H := H1
      clear H1
      replace H := Option.bind_eq_some_iff.mp H
      obtain ⟨t475, A260, H⟩ := H
      replace H : ((surmiseref10_LayVerdicts.f kj6 l1).bind fun t476 => ((surmiselaw10_laid.f t466 t467 t475 t476).bind fun t477 => (if t477 = true then ((surmiseref09_Right.f kj6 l2).bind fun t478 => ((surmiseref10_LayFilter.f kj6 l2).bind fun t479 => ((surmiselaw10_laid.f t468 t469 t478 t479).bind fun t480 => (some t480)))) else (some false)))) = some r := H
      have A26 := Aside0.mk A260
      clear A260
      replace H := Option.bind_eq_some_iff.mp H
      obtain ⟨t476, A270, H⟩ := H
      replace H : ((surmiselaw10_laid.f t466 t467 t475 t476).bind fun t477 => (if t477 = true then ((surmiseref09_Right.f kj6 l2).bind fun t478 => ((surmiseref10_LayFilter.f kj6 l2).bind fun t479 => ((surmiselaw10_laid.f t468 t469 t478 t479).bind fun t480 => (some t480)))) else (some false))) = some r := H
      have A27 := Aside0.mk A270
      clear A270
      replace H := Option.bind_eq_some_iff.mp H
      obtain ⟨t477, A280, H⟩ := H
      replace H : (if t477 = true then ((surmiseref09_Right.f kj6 l2).bind fun t478 => ((surmiseref10_LayFilter.f kj6 l2).bind fun t479 => ((surmiselaw10_laid.f t468 t469 t478 t479).bind fun t480 => (some t480)))) else (some false)) = some r := H
      have A28 := Aside0.mk A280
      clear A280
      by_cases c29 : t477 = true
      ·subst c29
       have H1 : ((surmiseref09_Right.f kj6 l2).bind fun t478 => ((surmiseref10_LayFilter.f kj6 l2).bind fun t479 => ((surmiselaw10_laid.f t468 t469 t478 t479).bind fun t480 => (some t480)))) = some r := by rw [if_pos rfl] at H; exact H
       clear H
       have H := H1
       clear H1
       replace H := Option.bind_eq_some_iff.mp H
       obtain ⟨t478, A300, H⟩ := H
       replace H : ((surmiseref10_LayFilter.f kj6 l2).bind fun t479 => ((surmiselaw10_laid.f t468 t469 t478 t479).bind fun t480 => (some t480))) = some r := H
       have A30 := Aside0.mk A300
       clear A300
       replace H := Option.bind_eq_some_iff.mp H
       obtain ⟨t479, A310, H⟩ := H
       replace H : ((surmiselaw10_laid.f t468 t469 t478 t479).bind fun t480 => (some t480)) = some r := H
       have A31 := Aside0.mk A310
       clear A310
       replace H := Option.bind_eq_some_iff.mp H
       obtain ⟨t480, A320, H⟩ := H
       replace H : (some t480) = some r := H
       have A32 := Aside0.mk A320
       clear A320
       obtain rfl := Option.some.inj H
       go_wp2_with (first | ((with_reducible refine gate_callee (f := 11) rfl ?_); refine goesL_ (some 51) rfl rfl Try.func11 (by kernel_rfl) rfl #[] rfl (by (try simp only [List.map_toArray, List.map_cons, List.map_nil]); first | done | rfl | (simp only [List.length_drop, List.length_take]; rfl)) ?_; (with_reducible refine (surmiselaw10_awake.calls kj6  true _ A20.out).mono ?_); rintro e w33 ⟨rfl, hb⟩; refine ⟨_, rfl, ?_⟩; have n0_ := Aside0.mk (below_step (by repeat (first | (with_reducible first | exact HB.out | apply below_alloc | apply pw_below_drewN | apply below_drew1) | exact HB.out)) hb); clear HB; have HB := n0_; clear n0_; (try clear hb); (try clear hb2); (try clear hk); (try clear hi)) | (go_at_call 22; (with_reducible refine (surmiseref10_Items.calls kj6 _ _ l0 t472 _ ?side1 ?side2 A22.out).mono ?_); (case side1 => repeat (first | exact (Kd.C_below HR0.out HB.out) | (with_reducible refine Kd.C_alloc ?_ _) | (with_reducible refine Kd.C_drewN ?_ _) | (with_reducible refine Kd.C_drew ?_))); (case side2 => exact HC0.out); rintro e w34 ⟨rfl, hb⟩; have n0_ := Aside0.mk (below_step (by repeat (first | (with_reducible first | exact HB.out | apply below_alloc | apply pw_below_drewN | apply below_drew1) | exact HB.out)) hb); clear HB; have HB := n0_; clear n0_; (try clear hb); (try clear hb2); (try clear hk); (try clear hi)) | (go_at_call 23; (with_reducible refine (surmiseref10_LayItems.calls kj6 _ _ l0 t473 _ ?side1 ?side2 A23.out).mono ?_); (case side1 => repeat (first | exact (Kd.C_below HR0.out HB.out) | (with_reducible refine Kd.C_alloc ?_ _) | (with_reducible refine Kd.C_drewN ?_ _) | (with_reducible refine Kd.C_drew ?_))); (case side2 => exact HC0.out); rintro e w35 ⟨rfl, hb⟩; have n0_ := Aside0.mk (below_step (by repeat (first | (with_reducible first | exact HB.out | apply below_alloc | apply pw_below_drewN | apply below_drew1) | exact HB.out)) hb); clear HB; have HB := n0_; clear n0_; (try clear hb); (try clear hb2); (try clear hk); (try clear hi)) | (go_at_call 12; (with_reducible refine (surmiselaw10_laid.calls t464 t465 t472 t473 true _ A24.out).mono ?_); rintro e w' ⟨rfl, ⟨nd, rfl⟩⟩) | (go_at_call 24; (with_reducible refine (surmiseref10_Verdicts.calls kj6 _ _ l1 t475 _ ?side1 ?side2 A26.out).mono ?_); (case side1 => repeat (first | exact (Kd.C_below HR1.out (by repeat (first | (with_reducible first | exact HB.out | apply below_alloc | apply pw_below_drewN | apply below_drew1) | exact HB.out))) | (with_reducible refine Kd.C_alloc ?_ _) | (with_reducible refine Kd.C_drewN ?_ _) | (with_reducible refine Kd.C_drew ?_))); (case side2 => exact HC1.out); rintro e w36 ⟨rfl, hb⟩; have n0_ := Aside0.mk (below_step (by repeat (first | (with_reducible first | exact HB.out | apply below_alloc | apply pw_below_drewN | apply below_drew1) | exact HB.out)) hb); clear HB; have HB := n0_; clear n0_; (try clear hb); (try clear hb2); (try clear hk); (try clear hi)) | (go_at_call 25; (with_reducible refine (surmiseref10_LayVerdicts.calls kj6 _ _ l1 t476 _ ?side1 ?side2 A27.out).mono ?_); (case side1 => repeat (first | exact (Kd.C_below HR1.out HB.out) | (with_reducible refine Kd.C_alloc ?_ _) | (with_reducible refine Kd.C_drewN ?_ _) | (with_reducible refine Kd.C_drew ?_))); (case side2 => exact HC1.out); rintro e w37 ⟨rfl, hb⟩; have n0_ := Aside0.mk (below_step (by repeat (first | (with_reducible first | exact HB.out | apply below_alloc | apply pw_below_drewN | apply below_drew1) | exact HB.out)) hb); clear HB; have HB := n0_; clear n0_; (try clear hb); (try clear hb2); (try clear hk); (try clear hi)) | (go_at_call 12; (with_reducible refine (surmiselaw10_laid.calls t466 t467 t475 t476 true _ A28.out).mono ?_); rintro e w' ⟨rfl, ⟨nd, rfl⟩⟩) | (go_at_call 26; (with_reducible refine (surmiseref09_Right.calls kj6 _ _ l2 t478 _ ?side1 ?side2 A30.out).mono ?_); (case side1 => repeat (first | exact (Kd.C_below HR2.out (by repeat (first | (with_reducible first | exact HB.out | apply below_alloc | apply pw_below_drewN | apply below_drew1) | exact HB.out))) | (with_reducible refine Kd.C_alloc ?_ _) | (with_reducible refine Kd.C_drewN ?_ _) | (with_reducible refine Kd.C_drew ?_))); (case side2 => exact HC2.out); rintro e w38 ⟨rfl, hb⟩; have n0_ := Aside0.mk (below_step (by repeat (first | (with_reducible first | exact HB.out | apply below_alloc | apply pw_below_drewN | apply below_drew1) | exact HB.out)) hb); clear HB; have HB := n0_; clear n0_; (try clear hb); (try clear hb2); (try clear hk); (try clear hi)) | (go_at_call 27; (with_reducible refine (surmiseref10_LayFilter.calls kj6 _ _ l2 t479 _ ?side1 ?side2 A31.out).mono ?_); (case side1 => repeat (first | exact (Kd.C_below HR2.out HB.out) | (with_reducible refine Kd.C_alloc ?_ _) | (with_reducible refine Kd.C_drewN ?_ _) | (with_reducible refine Kd.C_drew ?_))); (case side2 => exact HC2.out); rintro e w39 ⟨rfl, hb⟩; have n0_ := Aside0.mk (below_step (by repeat (first | (with_reducible first | exact HB.out | apply below_alloc | apply pw_below_drewN | apply below_drew1) | exact HB.out)) hb); clear HB; have HB := n0_; clear n0_; (try clear hb); (try clear hb2); (try clear hk); (try clear hi)) | (go_at_call 12; (with_reducible refine (surmiselaw10_laid.calls t468 t469 t478 t479 t480 _ A32.out).mono ?_); rintro e w' ⟨rfl, ⟨nd, rfl⟩⟩))
       go_ret
       exact ⟨by first | rfl | (simp [errW_none, errW_some] <;> rfl) | (simp [*, errW_none, errW_some] <;> rfl), by repeat (first | (with_reducible first | exact HB.out | apply below_alloc | apply pw_below_drewN | apply below_drew1) | exact HB.out)⟩
      ·replace c29 := Bool.eq_false_iff.mpr c29
       subst c29
       have H1 : (some false) = some r := by rw [if_neg (show ¬ (false = true) by decide)] at H; exact H
       clear H
       have H := H1
       clear H1
       obtain rfl := Option.some.inj H
       go_wp2_with (first | ((with_reducible refine gate_callee (f := 11) rfl ?_); refine goesL_ (some 51) rfl rfl Try.func11 (by kernel_rfl) rfl #[] rfl (by (try simp only [List.map_toArray, List.map_cons, List.map_nil]); first | done | rfl | (simp only [List.length_drop, List.length_take]; rfl)) ?_; (with_reducible refine (surmiselaw10_awake.calls kj6  true _ A20.out).mono ?_); rintro e w40 ⟨rfl, hb⟩; refine ⟨_, rfl, ?_⟩; have n0_ := Aside0.mk (below_step (by repeat (first | (with_reducible first | exact HB.out | apply below_alloc | apply pw_below_drewN | apply below_drew1) | exact HB.out)) hb); clear HB; have HB := n0_; clear n0_; (try clear hb); (try clear hb2); (try clear hk); (try clear hi)) | (go_at_call 22; (with_reducible refine (surmiseref10_Items.calls kj6 _ _ l0 t472 _ ?side1 ?side2 A22.out).mono ?_); (case side1 => repeat (first | exact (Kd.C_below HR0.out HB.out) | (with_reducible refine Kd.C_alloc ?_ _) | (with_reducible refine Kd.C_drewN ?_ _) | (with_reducible refine Kd.C_drew ?_))); (case side2 => exact HC0.out); rintro e w41 ⟨rfl, hb⟩; have n0_ := Aside0.mk (below_step (by repeat (first | (with_reducible first | exact HB.out | apply below_alloc | apply pw_below_drewN | apply below_drew1) | exact HB.out)) hb); clear HB; have HB := n0_; clear n0_; (try clear hb); (try clear hb2); (try clear hk); (try clear hi)) | (go_at_call 23; (with_reducible refine (surmiseref10_LayItems.calls kj6 _ _ l0 t473 _ ?side1 ?side2 A23.out).mono ?_); (case side1 => repeat (first | exact (Kd.C_below HR0.out HB.out) | (with_reducible refine Kd.C_alloc ?_ _) | (with_reducible refine Kd.C_drewN ?_ _) | (with_reducible refine Kd.C_drew ?_))); (case side2 => exact HC0.out); rintro e w42 ⟨rfl, hb⟩; have n0_ := Aside0.mk (below_step (by repeat (first | (with_reducible first | exact HB.out | apply below_alloc | apply pw_below_drewN | apply below_drew1) | exact HB.out)) hb); clear HB; have HB := n0_; clear n0_; (try clear hb); (try clear hb2); (try clear hk); (try clear hi)) | (go_at_call 12; (with_reducible refine (surmiselaw10_laid.calls t464 t465 t472 t473 true _ A24.out).mono ?_); rintro e w' ⟨rfl, ⟨nd, rfl⟩⟩) | (go_at_call 24; (with_reducible refine (surmiseref10_Verdicts.calls kj6 _ _ l1 t475 _ ?side1 ?side2 A26.out).mono ?_); (case side1 => repeat (first | exact (Kd.C_below HR1.out (by repeat (first | (with_reducible first | exact HB.out | apply below_alloc | apply pw_below_drewN | apply below_drew1) | exact HB.out))) | (with_reducible refine Kd.C_alloc ?_ _) | (with_reducible refine Kd.C_drewN ?_ _) | (with_reducible refine Kd.C_drew ?_))); (case side2 => exact HC1.out); rintro e w43 ⟨rfl, hb⟩; have n0_ := Aside0.mk (below_step (by repeat (first | (with_reducible first | exact HB.out | apply below_alloc | apply pw_below_drewN | apply below_drew1) | exact HB.out)) hb); clear HB; have HB := n0_; clear n0_; (try clear hb); (try clear hb2); (try clear hk); (try clear hi)) | (go_at_call 25; (with_reducible refine (surmiseref10_LayVerdicts.calls kj6 _ _ l1 t476 _ ?side1 ?side2 A27.out).mono ?_); (case side1 => repeat (first | exact (Kd.C_below HR1.out HB.out) | (with_reducible refine Kd.C_alloc ?_ _) | (with_reducible refine Kd.C_drewN ?_ _) | (with_reducible refine Kd.C_drew ?_))); (case side2 => exact HC1.out); rintro e w44 ⟨rfl, hb⟩; have n0_ := Aside0.mk (below_step (by repeat (first | (with_reducible first | exact HB.out | apply below_alloc | apply pw_below_drewN | apply below_drew1) | exact HB.out)) hb); clear HB; have HB := n0_; clear n0_; (try clear hb); (try clear hb2); (try clear hk); (try clear hi)) | (go_at_call 12; (with_reducible refine (surmiselaw10_laid.calls t466 t467 t475 t476 false _ A28.out).mono ?_); rintro e w' ⟨rfl, ⟨nd, rfl⟩⟩))
       go_ret
       exact ⟨by first | rfl | (simp [errW_none, errW_some] <;> rfl) | (simp [*, errW_none, errW_some] <;> rfl), by repeat (first | (with_reducible first | exact HB.out | apply below_alloc | apply pw_below_drewN | apply below_drew1) | exact HB.out)⟩
     ·replace c25 := Bool.eq_false_iff.mpr c25
      subst c25
      have H1 : (some false) = some r := by rw [if_neg (show ¬ (false = true) by decide)] at H; exact H
      clear H
      have H := H1
      clear H1
      obtain rfl := Option.some.inj H
      go_wp2_with (first | ((with_reducible refine gate_callee (f := 11) rfl ?_); refine goesL_ (some 51) rfl rfl Try.func11 (by kernel_rfl) rfl #[] rfl (by (try simp only [List.map_toArray, List.map_cons, List.map_nil]); first | done | rfl | (simp only [List.length_drop, List.length_take]; rfl)) ?_; (with_reducible refine (surmiselaw10_awake.calls kj6  true _ A20.out).mono ?_); rintro e w45 ⟨rfl, hb⟩; refine ⟨_, rfl, ?_⟩; have n0_ := Aside0.mk (below_step (by repeat (first | (with_reducible first | exact HB.out | apply below_alloc | apply pw_below_drewN | apply below_drew1) | exact HB.out)) hb); clear HB; have HB := n0_; clear n0_; (try clear hb); (try clear hb2); (try clear hk); (try clear hi)) | (go_at_call 22; (with_reducible refine (surmiseref10_Items.calls kj6 _ _ l0 t472 _ ?side1 ?side2 A22.out).mono ?_); (case side1 => repeat (first | exact (Kd.C_below HR0.out HB.out) | (with_reducible refine Kd.C_alloc ?_ _) | (with_reducible refine Kd.C_drewN ?_ _) | (with_reducible refine Kd.C_drew ?_))); (case side2 => exact HC0.out); rintro e w46 ⟨rfl, hb⟩; have n0_ := Aside0.mk (below_step (by repeat (first | (with_reducible first | exact HB.out | apply below_alloc | apply pw_below_drewN | apply below_drew1) | exact HB.out)) hb); clear HB; have HB := n0_; clear n0_; (try clear hb); (try clear hb2); (try clear hk); (try clear hi)) | (go_at_call 23; (with_reducible refine (surmiseref10_LayItems.calls kj6 _ _ l0 t473 _ ?side1 ?side2 A23.out).mono ?_); (case side1 => repeat (first | exact (Kd.C_below HR0.out HB.out) | (with_reducible refine Kd.C_alloc ?_ _) | (with_reducible refine Kd.C_drewN ?_ _) | (with_reducible refine Kd.C_drew ?_))); (case side2 => exact HC0.out); rintro e w47 ⟨rfl, hb⟩; have n0_ := Aside0.mk (below_step (by repeat (first | (with_reducible first | exact HB.out | apply below_alloc | apply pw_below_drewN | apply below_drew1) | exact HB.out)) hb); clear HB; have HB := n0_; clear n0_; (try clear hb); (try clear hb2); (try clear hk); (try clear hi)) | (go_at_call 12; (with_reducible refine (surmiselaw10_laid.calls t464 t465 t472 t473 false _ A24.out).mono ?_); rintro e w' ⟨rfl, ⟨nd, rfl⟩⟩))
      go_ret
      exact ⟨by first | rfl | (simp [errW_none, errW_some] <;> rfl) | (simp [*, errW_none, errW_some] <;> rfl), by repeat (first | (with_reducible first | exact HB.out | apply below_alloc | apply pw_below_drewN | apply below_drew1) | exact HB.out)⟩
    ·replace c21 := Bool.eq_false_iff.mpr c21
     subst c21
     have H1 : (some false) = some r := by rw [if_neg (show ¬ (false = true) by decide)] at H; exact H
     clear H
     have H := H1
     clear H1
     obtain rfl := Option.some.inj H
     go_wp2_with (first | ((with_reducible refine gate_callee (f := 11) rfl ?_); refine goesL_ (some 51) rfl rfl Try.func11 (by kernel_rfl) rfl #[] rfl (by (try simp only [List.map_toArray, List.map_cons, List.map_nil]); first | done | rfl | (simp only [List.length_drop, List.length_take]; rfl)) ?_; (with_reducible refine (surmiselaw10_awake.calls kj6  false _ A20.out).mono ?_); rintro e w48 ⟨rfl, hb⟩; refine ⟨_, rfl, ?_⟩; have n0_ := Aside0.mk (below_step (by repeat (first | (with_reducible first | exact HB.out | apply below_alloc | apply pw_below_drewN | apply below_drew1) | exact HB.out)) hb); clear HB; have HB := n0_; clear n0_; (try clear hb); (try clear hb2); (try clear hk); (try clear hi)))
     go_ret
     exact ⟨by first | rfl | (simp [errW_none, errW_some] <;> rfl) | (simp [*, errW_none, errW_some] <;> rfl), by repeat (first | (with_reducible first | exact HB.out | apply below_alloc | apply pw_below_drewN | apply below_drew1) | exact HB.out)⟩
theorem number_some (n : Int) (h0 : -9223372036854775808 ≤ n) (h1 : n ≤ 9223372036854775807) : varint_Number.f n = some (numB n) := by
 unfold varint_Number.f
 rw [if_pos ⟨h0, h1⟩]
theorem ints_cons (c : Nat) (l : List Nat) : ints (c :: l) = (c : Int) :: ints l := rfl
theorem digits_some (f : Nat) (hf : f ≤ 20) : ∀ (k u : Nat), f ≤ k → u < 18446744073709551616 → u < 128 ^ (f + 1) → surmiseref01_digits.f (k + 1) (u : Int) = some (strOfNums (ints (digL (f + 1) u))) := by
 induction f with
 | zero =>
  intro k u hk h64 hu
  have hz : u < 128 := by simpa using hu
  have e : (u : Int) % 256 = (u : Int) := by omega
  rw [surmiseref01_digits.f, digL, if_pos (by omega), if_pos hz, e]
  rfl
 | succ f ih =>
  intro k u hk h64 hu
  obtain ⟨k, rfl⟩ : ∃ m, k = m + 1 := ⟨k - 1, by omega⟩
  rw [surmiseref01_digits.f, digL]
  by_cases h : u < 128
  ·rw [if_pos (by omega), if_pos h]
   have e : (u : Int) % 256 = (u : Int) := by omega
   rw [e]
   rfl
  ·have e1 : IntKind.u64.wrap (Int.tdiv (u : Int) 128) = ((u / 128 : Nat) : Int) := by
    rw [Int.tdiv_eq_ediv_of_nonneg (by omega), wrap_u64]
    omega
   have e2 : IntKind.u64.wrap (Int.tmod (u : Int) 128 + 128) % 256 = ((u % 128 + 128 : Nat) : Int) := by
    rw [Int.tmod_eq_emod_of_nonneg (by omega), wrap_u64]
    omega
   have hd : u / 128 < 128 ^ (f + 1) := by
    rw [Nat.pow_succ] at hu
    exact Nat.div_lt_of_lt_mul (by rw [Nat.mul_comm]; exact hu)
   have hi := ih (by omega) k (u / 128) (by omega) (by omega) hd
   have hl := digL_length (f + 1) (u / 128)
   rw [if_neg (by omega), if_neg h, e1, e2]
   rw [bind_of rfl, bind_of hi, if_pos]
   ·rw [ints_cons, ← strOfNums_append]
    rfl
   ·rw [strOfNums_size, strOfNums_size, ints, List.length_map]
    simp only [List.length_cons, List.length_nil]
    omega
theorem refnumber_some (n : Int) (h0 : -9223372036854775808 ≤ n) (h1 : n ≤ 9223372036854775807) (k : Nat) (hk : 10 ≤ k) : surmiseref01_Number.f k n = some (numB n) := by
 obtain ⟨k, rfl⟩ : ∃ m, k = m + 1 := ⟨k - 1, by omega⟩
 have hz := zig_lt n h0 h1
 have e128 : (128 : Nat) ^ (9 + 1) = 1180591620717411303424 := by decide
 have hd := digits_some 9 (by omega) k (zig n) (by omega) hz (by rw [e128]; omega)
 unfold surmiseref01_Number.f
 by_cases hn : n < 0
 ·have e : IntKind.u64.wrap ((IntKind.u64.wrap ((IntKind.u64.wrap (wrap64 (-(wrap64 (n + 1))))) * 2)) + 1) = ((zig n : Nat) : Int) := by
   rw [wrap_id (i := n + 1) (by omega) (by omega), wrap_id (by omega) (by omega), wrap_u64, wrap_u64, wrap_u64, zig, if_pos hn]
   omega
  rw [if_pos hn, e, bind_of hd]
  rfl
 ·rw [if_neg hn, zig_pos n hn h1, bind_of hd]
  rfl
def textP (s : ByteArray) : ByteArray × Int := if 4096 < s.size then (⟨#[]⟩, 4) else (numB (s.size : Int) ++ s, 0)
def listP {α : Type} (T : α → ByteArray × Int) : List α → ByteArray → ByteArray × Int
 | [], acc => (acc, 0)
 | x :: l, acc => if (T x).2 = 0 then listP T l (acc ++ (T x).1) else (⟨#[]⟩, (T x).2)
theorem textP_size (s : ByteArray) : (textP s).1.size ≤ 4106 := by
 unfold textP
 split
 ·exact Nat.zero_le _
 ·have := numB_size (s.size : Int)
  rw [ByteArray.size_append]
  omega
theorem text_some (s : ByteArray) (hs : s.size ≤ 140737488351232) : varint_Text.f s = some (textP s) := by
 unfold varint_Text.f textP
 by_cases h : 4096 < s.size
 ·rw [if_pos (by omega), if_pos h]
 ·have := numB_size (s.size : Int)
  rw [if_neg (by omega), if_neg h, bind_of (number_some _ (by omega) (by omega)), if_pos (by omega)]
theorem listO_some {α : Type} (T : α → Option (ByteArray × Int)) (R : α → ByteArray × Int) (M : Nat) (hM : M ≤ 100000) (l : List α) : ∀ acc : List Int, (∀ x ∈ l, T x = some (R x) ∧ (R x).1.size ≤ M) → acc.length + M * l.length ≤ 140737488355328 →
  listO T l acc = some (listP R l (strOfNums acc)) := by
 induction l with
 | nil => intro acc _ _; rfl
 | cons x l ih =>
  intro acc h hb
  obtain ⟨h1, h2⟩ := h x List.mem_cons_self
  rw [List.length_cons, Nat.mul_succ] at hb
  rw [listO, bind_of h1, listP]
  by_cases he : (R x).2 = 0
  ·rw [if_pos he, if_pos he, if_pos (by omega), ih _ (fun y hy => h y (List.mem_cons_of_mem _ hy)) (by rw [List.length_append, bytesOf_length]; omega), strOfNums_append, strOfNums_bytesOf]
  ·rw [if_neg he, if_neg he]
def numbersP (l : List Int) : ByteArray × Int := if 256 < l.length then (⟨#[]⟩, 4) else listP (fun n => (numB n, 0)) l (numB (l.length : Int))
def textsP (l : List ByteArray) : ByteArray × Int := if 256 < l.length then (⟨#[]⟩, 4) else listP textP l (numB (l.length : Int))
theorem i64_of {n : Int} (h : (Lit.int .i64 n).wf = true) : -9223372036854775808 ≤ n ∧ n ≤ 9223372036854775807 := by
 have m1 : IntKind.i64.min = -9223372036854775808 := rfl
 have m2 : IntKind.i64.max = 9223372036854775807 := rfl
 simp only [Lit.wf, Bool.and_eq_true, decide_eq_true_eq] at h
 omega
theorem numbers_some (l : List Int) (h : ∀ n ∈ l, (Lit.int .i64 n).wf = true) : varint_Numbers.f l = some (numbersP l) := by
 unfold varint_Numbers.f numbersP
 by_cases hl : 256 < l.length
 ·rw [if_pos hl, if_pos hl]
 ·have := numB_size (l.length : Int)
  rw [if_neg hl, if_neg hl, bind_of (number_some _ (by omega) (by omega)), listO_some _ (fun n => (numB n, (0 : Int))) 10 (by omega) l _ (fun n hn => ?_) (by rw [bytesOf_length]; omega), strOfNums_bytesOf]
  have hb := i64_of (h n hn)
  exact ⟨by simp only [number_some n hb.1 hb.2, Option.map_some], numB_size n⟩
theorem texts_some (l : List ByteArray) (h : ∀ s ∈ l, s.size ≤ 140737488351232) : varint_Texts.f l = some (textsP l) := by
 unfold varint_Texts.f textsP
 by_cases hl : 256 < l.length
 ·rw [if_pos hl, if_pos hl]
 ·have := numB_size (l.length : Int)
  rw [if_neg hl, if_neg hl, bind_of (number_some _ (by omega) (by omega)), listO_some _ textP 4106 (by omega) l _ (fun s hs => ⟨text_some s (h s hs), textP_size s⟩) (by rw [bytesOf_length]; omega), strOfNums_bytesOf]
theorem size_app (x y : ByteArray) : (x ++ y).size = x.size + y.size := ByteArray.size_append
def catP {α : Type} (T : α → ByteArray × Int) : List α → ByteArray
 | [] => ⟨#[]⟩
 | x :: l => (T x).1 ++ catP T l
theorem app_assoc (a b c : ByteArray) : a ++ b ++ c = a ++ (b ++ c) := bl_inj (by simp only [bl_append, List.append_assoc])
theorem app_nil (a : ByteArray) : a ++ (⟨#[]⟩ : ByteArray) = a := bl_inj (by rw [bl_append]; exact List.append_nil _)
theorem listP_ok {α : Type} (T : α → ByteArray × Int) (l : List α) : ∀ acc, (listP T l acc).2 = 0 → (∀ x ∈ l, (T x).2 = 0) ∧ (listP T l acc).1 = acc ++ catP T l := by
 induction l with
 | nil => intro acc _; exact ⟨fun x hx => absurd hx (List.not_mem_nil), by rw [listP, catP, app_nil]⟩
 | cons x l ih =>
  intro acc
  rw [listP]
  by_cases h : (T x).2 = 0
  ·rw [if_pos h]
   intro h2
   obtain ⟨i1, i2⟩ := ih _ h2
   refine ⟨fun y hy => ?_, by rw [i2, catP, app_assoc]⟩
   rcases List.mem_cons.mp hy with rfl | hy
   ·exact h
   ·exact i1 y hy
  ·rw [if_neg h]
   intro h2
   exact absurd h2 h
theorem listP_all {α : Type} (T : α → ByteArray × Int) (l : List α) : ∀ acc, (∀ x ∈ l, (T x).2 = 0) → listP T l acc = (acc ++ catP T l, 0) := by
 induction l with
 | nil => intro acc _; rw [listP, catP, app_nil]
 | cons x l ih =>
  intro acc h
  rw [listP, if_pos (h x (List.mem_cons_self ..)), ih _ (fun y hy => h y (List.mem_cons_of_mem _ hy)), catP, app_assoc]
theorem cut_join (s : ByteArray) (a b c : Nat) (h1 : a ≤ b) (h2 : b ≤ c) (h3 : c ≤ s.size) : s.extract a b ++ s.extract b c = s.extract a c := by
 apply bl_inj
 rw [bl_append, bl_extract, bl_extract, bl_extract]
 have hl : (bl s).length = s.size := bl_length s
 generalize bl s = l at hl ⊢
 have e1 : l.take b = (l.take c).take b := by rw [List.take_take, Nat.min_eq_left h2]
 rw [e1]
 have hm : (l.take c).length = c := by rw [List.length_take]; omega
 generalize l.take c = m at hm ⊢
 have e2 : m = m.take b ++ m.drop b := (List.take_append_drop b m).symm
 have e3 : m.drop a = (m.take b ++ m.drop b).drop a := by rw [List.take_append_drop]
 rw [e3, List.drop_append_of_le_length (by rw [List.length_take]; omega)]
theorem wf_i64 (n : Int) (h0 : -9223372036854775808 ≤ n) (h1 : n ≤ 9223372036854775807) : (Lit.int .i64 n).wf = true := by
 have m1 : IntKind.i64.min = -9223372036854775808 := rfl
 have m2 : IntKind.i64.max = 9223372036854775807 := rfl
 simp only [Lit.wf, Bool.and_eq_true, decide_eq_true_eq]
 omega
theorem catP_size {α : Type} (T : α → ByteArray × Int) (M : Nat) (l : List α) : (∀ x ∈ l, (T x).1.size ≤ M) → (catP T l).size ≤ M * l.length := by
 induction l with
 | nil => intro _; exact Nat.zero_le _
 | cons x l ih =>
  intro h
  have h1 := h x (List.mem_cons_self ..)
  have h2 := ih (fun y hy => h y (List.mem_cons_of_mem _ hy))
  rw [catP, size_app, List.length_cons, Nat.mul_succ]
  omega
theorem numbersP_size (l : List Int) : (numbersP l).2 = 0 → (numbersP l).1.size ≤ 10000000 := by
 unfold numbersP
 by_cases hl : 256 < l.length
 ·rw [if_pos hl]; intro h; exact absurd h (by decide)
 ·rw [if_neg hl]
  intro h
  rw [(listP_ok _ l _ h).2, size_app]
  have h1 := numB_size (l.length : Int)
  have h2 := catP_size (fun n => (numB n, (0 : Int))) 10 l (fun x _ => numB_size x)
  omega
theorem textsP_size (l : List ByteArray) : (textsP l).2 = 0 → (textsP l).1.size ≤ 10000000 := by
 unfold textsP
 by_cases hl : 256 < l.length
 ·rw [if_pos hl]; intro h; exact absurd h (by decide)
 ·rw [if_neg hl]
  intro h
  rw [(listP_ok _ l _ h).2, size_app]
  have h1 := numB_size (l.length : Int)
  have h2 := catP_size textP 4106 l (fun x _ => textP_size x)
  omega
theorem getD_at8 (l : List Nat) (i : Nat) (h : i < l.length) : l.getD i 0 = l[i] := by simp [List.getD, h]
theorem bt_getD8 (s : ByteArray) (i : Nat) (h : i < s.size) : bt s (i : Int) = (((bl s).getD i 0 : Nat) : Int) := by
 rw [bl_bt s i h, getD_at8 _ _ (by rw [bl_length]; exact h)]
theorem cut_join8 (s : ByteArray) (a b c : Nat) (h1 : a ≤ b) (h2 : b ≤ c) (h3 : c ≤ s.size) : s.extract a b ++ s.extract b c = s.extract a c := by
 apply bl_inj
 rw [bl_append, bl_extract, bl_extract, bl_extract]
 have hl : (bl s).length = s.size := bl_length s
 generalize bl s = l at hl ⊢
 have e1 : l.take b = (l.take c).take b := by rw [List.take_take, Nat.min_eq_left h2]
 rw [e1]
 have hm : (l.take c).length = c := by rw [List.length_take]; omega
 generalize l.take c = m at hm ⊢
 have e2 : m = m.take b ++ m.drop b := (List.take_append_drop b m).symm
 have e3 : m.drop a = (m.take b ++ m.drop b).drop a := by rw [List.take_append_drop]
 rw [e3, List.drop_append_of_le_length (by rw [List.length_take]; omega)]
def cuts (s : ByteArray) : Nat → Nat → List ByteArray
 | 0, a => [s.extract a s.size]
 | d + 1, a => if (bl s).getD (s.size - (d + 1)) 0 = 47 then s.extract a (s.size - (d + 1)) :: cuts s d (s.size - d) else cuts s d a
def partsP (s : ByteArray) : List ByteArray := cuts s s.size 0
theorem cuts_len (s : ByteArray) (d : Nat) : ∀ a, 1 ≤ (cuts s d a).length ∧ (cuts s d a).length ≤ d + 1 := by
 induction d with
 | zero => intro a; exact ⟨Nat.le_refl _, Nat.le_refl _⟩
 | succ d ih =>
  intro a
  rw [cuts]
  split
  ·have := ih (s.size - d)
   rw [List.length_cons]
   omega
  ·have := ih a
   omega
theorem parts_len (s : ByteArray) : 1 ≤ (partsP s).length ∧ (partsP s).length ≤ s.size + 1 := cuts_len s s.size 0
theorem parts_l0 (s : ByteArray) (hs : s.size ≤ 8796093022000) (d : Nat) : ∀ (k i a : Nat) (acc : List ByteArray), i + d = s.size → a ≤ i → acc.length ≤ i → d + 1 ≤ k → pattern_parts.l0 k s acc (a : Int) (s.size : Int) (i : Int) = some (acc ++ cuts s d a) := by
 induction d with
 | zero =>
  intro k i a acc hi ha hl hk
  obtain ⟨k, rfl⟩ : ∃ k', k = k' + 1 := ⟨k - 1, by omega⟩
  rw [pattern_parts.l0, if_neg (by omega), if_pos (by omega), if_pos (by omega), if_pos (by omega), cuts, Int.toNat_natCast]
 | succ d ih =>
  intro k i a acc hi ha hl hk
  obtain ⟨k, rfl⟩ : ∃ k', k = k' + 1 := ⟨k - 1, by omega⟩
  have e : s.size - (d + 1) = i := by omega
  have e2 : s.size - d = i + 1 := by omega
  rw [pattern_parts.l0, if_pos (by omega), if_pos (by omega), if_pos (by omega), bt_getD8 s i (by omega), cuts, e, e2]
  by_cases h : (bl s).getD i 0 = 47
  ·rw [if_pos (by omega), if_pos (by omega), if_pos (by omega), if_pos (by omega), if_pos (by omega), if_pos h, wrap_up (by omega) (by omega), Int.toNat_natCast, Int.toNat_natCast]
   have := ih k (i + 1) (i + 1) (acc ++ [s.extract a i]) (by omega) (Nat.le_refl _) (by simp; omega) (by omega)
   rw [List.append_assoc] at this
   exact this
  ·rw [if_neg (by omega), if_neg h, wrap_up (by omega) (by omega)]
   exact ih k (i + 1) a acc (by omega) (by omega) (by omega) (by omega)
theorem parts_some (s : ByteArray) (hs : s.size ≤ 8796093022000) (k : Nat) (hk : s.size + 1 ≤ k) : pattern_parts.f k s = some (partsP s) := by
 have := parts_l0 s hs s.size k 0 0 [] (by omega) (Nat.le_refl _) (Nat.le_refl _) hk
 rw [List.nil_append] at this
 exact this
theorem split_l0 (s : ByteArray) (hs : s.size ≤ 8796093022000) (d : Nat) : ∀ (k i a : Nat) (acc : List ByteArray), i + d = s.size → a ≤ i → acc.length ≤ i → d + 1 ≤ k → surmiseref06_Split.l0 k s 47 acc (s.extract a i) (i : Int) = some (acc ++ cuts s d a) := by
 induction d with
 | zero =>
  intro k i a acc hi ha hl hk
  obtain ⟨k, rfl⟩ : ∃ k', k = k' + 1 := ⟨k - 1, by omega⟩
  have e : i = s.size := by omega
  rw [surmiseref06_Split.l0, if_neg (by omega), if_pos (by omega), cuts, e]
 | succ d ih =>
  intro k i a acc hi ha hl hk
  obtain ⟨k, rfl⟩ : ∃ k', k = k' + 1 := ⟨k - 1, by omega⟩
  have e : s.size - (d + 1) = i := by omega
  have e2 : s.size - d = i + 1 := by omega
  rw [surmiseref06_Split.l0, if_pos (by omega), if_pos (by omega), bt_getD8 s i (by omega), cuts, e, e2]
  by_cases h : (bl s).getD i 0 = 47
  ·rw [if_pos (by omega), if_pos (by omega), if_pos h, wrap_up (by omega) (by omega)]
   have := ih k (i + 1) (i + 1) (acc ++ [s.extract a i]) (by omega) (Nat.le_refl _) (by simp; omega) (by omega)
   rw [List.append_assoc] at this
   have e3 : s.extract (i + 1) (i + 1) = (⟨#[]⟩ : ByteArray) := by
    apply bl_inj
    rw [bl_extract, List.drop_eq_nil_of_le (by rw [List.length_take]; omega)]
    rfl
   rw [e3] at this
   exact this
  ·have hz : (s.extract a i).size ≤ s.size := by
    rw [← bl_length, bl_extract, List.length_drop, List.length_take, bl_length]
    omega
   have hz2 : (s.extract i (i + 1)).size ≤ s.size := by
    rw [← bl_length, bl_extract, List.length_drop, List.length_take, bl_length]
    omega
   have e4 : ((i : Int) + 1).toNat = i + 1 := by omega
   rw [if_neg (by omega), if_neg h, wrap_up (by omega) (by omega), if_pos (by omega), if_pos (by omega), Int.toNat_natCast, e4, if_pos (by omega), cut_join8 s a i (i + 1) ha (by omega) (by omega)]
   exact ih k (i + 1) a acc (by omega) (by omega) (by omega) (by omega)
theorem refparts_some (s : ByteArray) (hs : s.size ≤ 8796093022000) (k : Nat) (hk : s.size + 1 ≤ k) : surmiseref08_Parts.f k s = some (partsP s) := by
 have h0 : surmiseref06_Split.f k s 47 = some (partsP s) := by
  have := split_l0 s hs s.size k 0 0 [] (by omega) (Nat.le_refl _) (Nat.le_refl _) hk
  have e3 : s.extract 0 0 = (⟨#[]⟩ : ByteArray) := by
   apply bl_inj
   rw [bl_extract, List.drop_eq_nil_of_le (by rw [List.length_take]; omega)]
   rfl
  rw [List.nil_append, e3] at this
  exact this
 unfold surmiseref08_Parts.f
 rw [bind_of h0]
def okB (c : Nat) : Bool := decide (97 ≤ c ∧ c ≤ 122 ∨ 48 ≤ c ∧ c ≤ 57 ∨ c = 45 ∨ c = 95)
def allOk (l : List Nat) : Bool := l.all okB
def plainB (s : ByteArray) : Bool := decide (0 < s.size) && allOk (bl s)
theorem plain_l0 (s : ByteArray) (hs : s.size ≤ 8796093022000) (d : Nat) : ∀ (k i : Nat), i + d = s.size → 3 * d + 3 ≤ k → pattern_plain.l0 k s (s.size : Int) (i : Int) = some (allOk ((bl s).drop i)) := by
 induction d with
 | zero =>
  intro k i hi hk
  obtain ⟨k, rfl⟩ : ∃ k', k = k' + 1 := ⟨k - 1, by omega⟩
  rw [pattern_plain.l0, if_neg (by omega), List.drop_eq_nil_of_le (by rw [bl_length]; omega)]
  rfl
 | succ d ih =>
  intro k i hi hk
  obtain ⟨k, rfl⟩ : ∃ k', k = k' + 3 := ⟨k - 3, by omega⟩
  have hb := bl_bt s i (by omega)
  have hi1 := ih (k + 1) (i + 1) (by omega) (by omega)
  have hi2 := ih k (i + 1) (by omega) (by omega)
  rw [pattern_plain.l0, if_pos (by omega), if_pos (by omega), if_pos (by omega), hb, bl_drop s i (by omega)]
  generalize (bl s)[i]'(by rw [bl_length]; omega) = c
  have ha : allOk (c :: (bl s).drop (i + 1)) = (okB c && allOk ((bl s).drop (i + 1))) := rfl
  have hok : okB c = decide (97 ≤ c ∧ c ≤ 122 ∨ 48 ≤ c ∧ c ≤ 57 ∨ c = 45 ∨ c = 95) := rfl
  have hj2 : ∀ b : Bool, pattern_plain.j2 (k + 1) s (c : Int) (s.size : Int) (i : Int) b = some ((b || decide (c = 45 ∨ c = 95)) && allOk ((bl s).drop (i + 1))) := by
   intro b
   rw [pattern_plain.j2, wrap_up (by omega) (by omega)]
   cases b with
   | true => rw [if_pos rfl]; exact hi2
   | false =>
    rw [if_neg (by decide)]
    by_cases h1 : c = 45
    ·rw [if_pos (by omega), decide_eq_true (by omega : c = 45 ∨ c = 95)]; exact hi2
    ·rw [if_neg (by omega)]
     by_cases h2 : c = 95
     ·rw [if_pos (by omega), decide_eq_true (by omega : c = 45 ∨ c = 95)]; exact hi2
     ·rw [if_neg (by omega), decide_eq_false (by omega : ¬ (c = 45 ∨ c = 95))]; rfl
  have hj1 : ∀ b : Bool, pattern_plain.j1 (k + 2) s (c : Int) (s.size : Int) (i : Int) b = some ((b || (decide (48 ≤ c ∧ c ≤ 57) || decide (c = 45 ∨ c = 95))) && allOk ((bl s).drop (i + 1))) := by
   intro b
   rw [pattern_plain.j1, wrap_up (by omega) (by omega)]
   cases b with
   | true => rw [if_pos rfl]; exact hi1
   | false =>
    rw [if_neg (by decide)]
    by_cases h1 : 48 ≤ c
    ·rw [if_pos (by omega), hj2]
     by_cases h2 : c ≤ 57
     ·rw [decide_eq_true (by omega : (c : Int) ≤ 57), decide_eq_true (by omega : 48 ≤ c ∧ c ≤ 57)]; rfl
     ·rw [decide_eq_false (by omega : ¬ (c : Int) ≤ 57), decide_eq_false (by omega : ¬ (48 ≤ c ∧ c ≤ 57))]; rfl
    ·rw [if_neg (by omega), hj2, decide_eq_false (by omega : ¬ (48 ≤ c ∧ c ≤ 57))]; rfl
  rw [ha, hok]
  by_cases h1 : 97 ≤ c
  ·rw [if_pos (by omega), hj1]
   by_cases h2 : c ≤ 122
   ·rw [decide_eq_true (by omega : (c : Int) ≤ 122), decide_eq_true (by omega : 97 ≤ c ∧ c ≤ 122 ∨ 48 ≤ c ∧ c ≤ 57 ∨ c = 45 ∨ c = 95)]; rfl
   ·rw [decide_eq_false (by omega : ¬ (c : Int) ≤ 122), decide_eq_false (by omega : ¬ (97 ≤ c ∧ c ≤ 122 ∨ 48 ≤ c ∧ c ≤ 57 ∨ c = 45 ∨ c = 95)), decide_eq_false (by omega : ¬ (48 ≤ c ∧ c ≤ 57)), decide_eq_false (by omega : ¬ (c = 45 ∨ c = 95))]; rfl
  ·rw [if_neg (by omega), hj1]
   have e : (false || (decide (48 ≤ c ∧ c ≤ 57) || decide (c = 45 ∨ c = 95))) = decide (97 ≤ c ∧ c ≤ 122 ∨ 48 ≤ c ∧ c ≤ 57 ∨ c = 45 ∨ c = 95) := by
    rw [Bool.false_or, ← Bool.decide_or]
    exact decide_eq_decide.mpr (by omega)
   rw [e]
theorem toList_nil (s : ByteArray) : s.toList = ([] : List UInt8) ↔ s.size = 0 := by
 have e : ([] : List UInt8) = (⟨#[]⟩ : ByteArray).toList := by rw [ByteArray.toList, ByteArray.toList.loop]; rfl
 rw [e, toList_iff]
 constructor
 ·rintro rfl; rfl
 ·intro h
  apply bl_inj
  have : (bl s).length = 0 := by rw [bl_length]; exact h
  rw [List.length_eq_zero_iff.mp this]
  rfl
theorem plain_some (s : ByteArray) (hs : s.size ≤ 8796093022000) (k : Nat) (hk : 3 * s.size + 3 ≤ k) : pattern_plain.f k s = some (plainB s) := by
 unfold pattern_plain.f plainB
 by_cases h : s.size = 0
 ·rw [if_pos ((toList_nil s).mpr h), decide_eq_false (by omega)]; rfl
 ·rw [if_neg (fun h' => h ((toList_nil s).mp h')), decide_eq_true (by omega)]
  have := plain_l0 s hs s.size k 0 (by omega) hk
  rw [List.drop_zero] at this
  rw [Bool.true_and]
  exact this
theorem refplain_l0 (s : ByteArray) (hs : s.size ≤ 8796093022000) (d : Nat) : ∀ (k i : Nat), i + d = s.size → d + 1 ≤ k → surmiseref08_Plain.l0 k s (i : Int) = some (decide (0 < s.size) && allOk ((bl s).drop i)) := by
 induction d with
 | zero =>
  intro k i hi hk
  obtain ⟨k, rfl⟩ : ∃ k', k = k' + 1 := ⟨k - 1, by omega⟩
  have e : decide ((s.size : Int) > 0) = decide (0 < s.size) := decide_eq_decide.mpr (by omega)
  have e2 : allOk [] = true := rfl
  rw [surmiseref08_Plain.l0, if_neg (by omega), List.drop_eq_nil_of_le (by rw [bl_length]; omega), e, e2, Bool.and_true]
 | succ d ih =>
  intro k i hi hk
  obtain ⟨k, rfl⟩ : ∃ k', k = k' + 1 := ⟨k - 1, by omega⟩
  have hb := bl_bt s i (by omega)
  have hi1 := ih k (i + 1) (by omega) (by omega)
  rw [surmiseref08_Plain.l0, if_pos (by omega), if_pos (by omega), hb, bl_drop s i (by omega), wrap_up (by omega) (by omega)]
  have e1 : (i : Int) + 1 = ((i + 1 : Nat) : Int) := by omega
  rw [e1, hi1]
  generalize (bl s)[i]'(by rw [bl_length]; omega) = c
  have ha : allOk (c :: (bl s).drop (i + 1)) = (okB c && allOk ((bl s).drop (i + 1))) := rfl
  have hok : okB c = decide (97 ≤ c ∧ c ≤ 122 ∨ 48 ≤ c ∧ c ≤ 57 ∨ c = 45 ∨ c = 95) := rfl
  rw [ha, hok, decide_eq_true (by omega : 0 < s.size)]
  by_cases hc : 97 ≤ c ∧ c ≤ 122 ∨ 48 ≤ c ∧ c ≤ 57 ∨ c = 45 ∨ c = 95
  ·rw [decide_eq_true hc]
   simp only [Bool.true_and]
   (repeat' split) <;> first | rfl | omega
  ·rw [decide_eq_false hc]
   simp only [Bool.true_and, Bool.false_and]
   (repeat' split) <;> first | rfl | omega
theorem refplain_some (s : ByteArray) (hs : s.size ≤ 8796093022000) (k : Nat) (hk : s.size + 1 ≤ k) : surmiseref08_Plain.f k s = some (plainB s) := by
 unfold surmiseref08_Plain.f plainB
 exact refplain_l0 s hs s.size k 0 (by omega) hk
theorem rd_at8 (l : List ByteArray) (i : Nat) (h : i < l.length) : rdOf ByteArray.empty l (i : Int) = l[i] := by
 simp [rdOf, h]
theorem cuts_size (s : ByteArray) (d : Nat) : ∀ a, ∀ x ∈ cuts s d a, x.size ≤ s.size := by
 have hz : ∀ a b, (s.extract a b).size ≤ s.size := fun a b => by
  rw [← bl_length, bl_extract, List.length_drop, List.length_take, bl_length]
  omega
 induction d with
 | zero => intro a x hx; rw [cuts, List.mem_singleton] at hx; rw [hx]; exact hz _ _
 | succ d ih =>
  intro a x
  rw [cuts]
  split
  ·intro hx
   rcases List.mem_cons.mp hx with rfl | hx
   ·exact hz _ _
   ·exact ih _ x hx
  ·exact ih _ x
theorem parts_size (s : ByteArray) : ∀ x ∈ partsP s, x.size ≤ s.size := cuts_size s s.size 0
def streamL (l : List ByteArray) : Bool := l.all plainB && decide (l.length ≤ 4)
def streamB (s : ByteArray) : Bool := decide (s.size ≤ 32) && streamL (partsP s)
theorem all_stream_l0 (l : List ByteArray) (hl : l.length ≤ 1000000) (M : Nat) (hM : M ≤ 1000) (hz : ∀ x ∈ l, x.size ≤ M) (d : Nat) : ∀ (k i : Nat), i + d = l.length → d + 3 * M + 5 ≤ k → pattern_all_by_pattern_Stream_1.l0 k l l (l.length : Int) (i : Int) = some ((l.drop i).all plainB && decide (l.length ≤ 4)) := by
 induction d with
 | zero =>
  intro k i hi hk
  obtain ⟨k, rfl⟩ : ∃ k', k = k' + 1 := ⟨k - 1, by omega⟩
  have e : decide ((l.length : Int) ≤ 4) = decide (l.length ≤ 4) := decide_eq_decide.mpr (by omega)
  rw [pattern_all_by_pattern_Stream_1.l0, if_neg (by omega), List.drop_eq_nil_of_le (by omega), e]
  rfl
 | succ d ih =>
  intro k i hi hk
  obtain ⟨k, rfl⟩ : ∃ k', k = k' + 1 := ⟨k - 1, by omega⟩
  have hx : l[i].size ≤ M := hz _ (List.getElem_mem _)
  have hp : pattern_Stream_1.f k (i : Int) (l.length : Int) l[i] = some (plainB l[i]) := by
   unfold pattern_Stream_1.f
   rw [bind_of (plain_some l[i] (by omega) k (by omega))]
  rw [pattern_all_by_pattern_Stream_1.l0, if_pos (by omega), if_pos (by omega), if_pos (by omega), rd_at8 l i (by omega), bind_of hp, List.drop_eq_getElem_cons (by omega), List.all_cons, wrap_up (by omega) (by omega)]
  cases plainB l[i] with
  | true => rw [if_pos rfl, Bool.true_and]; exact ih k (i + 1) (by omega) (by omega)
  | false => rw [if_neg (by decide), Bool.false_and, Bool.false_and]
theorem stream_some (s : ByteArray) (k : Nat) (hk : 300 ≤ k) : pattern_Stream.f k s = some (streamB s) := by
 have h : pattern_all_by_pattern_Stream_1.f k s = some (streamB s) := by
  unfold pattern_all_by_pattern_Stream_1.f streamB streamL
  by_cases h : s.size ≤ 32
  ·have := parts_len s
   rw [if_neg (by omega), bind_of (parts_some s (by omega) k (by omega)), decide_eq_true h, Bool.true_and]
   exact all_stream_l0 (partsP s) (by omega) 32 (by omega) (fun x hx => Nat.le_trans (parts_size s x hx) h) (partsP s).length k 0 (by omega) (by omega)
  ·rw [if_pos (by omega), decide_eq_false h, Bool.false_and]
 unfold pattern_Stream.f
 rw [bind_of h]
theorem refstream_l0 (l : List ByteArray) (hl : l.length ≤ 1000000) (M : Nat) (hM : M ≤ 1000) (hz : ∀ x ∈ l, x.size ≤ M) (d : Nat) : ∀ (k i : Nat), i + d = l.length → d + M + 5 ≤ k → surmiseref08_Stream.l0 k l (i : Int) = some ((l.drop i).all plainB && decide (l.length ≤ 4)) := by
 induction d with
 | zero =>
  intro k i hi hk
  obtain ⟨k, rfl⟩ : ∃ k', k = k' + 1 := ⟨k - 1, by omega⟩
  have e : decide ((l.length : Int) ≤ 4) = decide (l.length ≤ 4) := decide_eq_decide.mpr (by omega)
  rw [surmiseref08_Stream.l0, if_neg (by omega), List.drop_eq_nil_of_le (by omega), e]
  rfl
 | succ d ih =>
  intro k i hi hk
  obtain ⟨k, rfl⟩ : ∃ k', k = k' + 1 := ⟨k - 1, by omega⟩
  have hx : l[i].size ≤ M := hz _ (List.getElem_mem _)
  rw [surmiseref08_Stream.l0, if_pos (by omega), if_pos (by omega), rd_at8 l i (by omega), bind_of (refplain_some l[i] (by omega) k (by omega)), List.drop_eq_getElem_cons (by omega), List.all_cons, wrap_up (by omega) (by omega)]
  cases plainB l[i] with
  | true => rw [if_pos rfl, Bool.true_and]; exact ih k (i + 1) (by omega) (by omega)
  | false => rw [if_neg (by decide), Bool.false_and, Bool.false_and]
theorem refstream_some (s : ByteArray) (k : Nat) (hk : 300 ≤ k) : surmiseref08_Stream.f k s = some (streamB s) := by
 unfold surmiseref08_Stream.f streamB streamL
 by_cases h : s.size ≤ 32
 ·have := parts_len s
  rw [if_neg (by omega), bind_of (refparts_some s (by omega) k (by omega)), decide_eq_true h, Bool.true_and]
  exact refstream_l0 (partsP s) (by omega) 32 (by omega) (fun x hx => Nat.le_trans (parts_size s x hx) h) (partsP s).length k 0 (by omega) (by omega)
 ·rw [if_pos (by omega), decide_eq_false h, Bool.false_and]
def star : ByteArray := ⟨#[42]⟩
def stars : ByteArray := ⟨#[42, 42]⟩
theorem star_list : star.toList = ([42] : List UInt8) := by decide +kernel
theorem stars_list : stars.toList = ([42, 42] : List UInt8) := by decide +kernel
theorem is_star (x : ByteArray) : x.toList = ([42] : List UInt8) ↔ x = star := by rw [← star_list, toList_iff]
theorem is_stars (x : ByteArray) : x.toList = ([42, 42] : List UInt8) ↔ x = stars := by rw [← stars_list, toList_iff]
instance : DecidableEq ByteArray := fun a b => decidable_of_iff (a.toList = b.toList) toList_iff
def patL : List ByteArray → Bool
 | [] => true
 | x :: l => (plainB x || decide (x = star) || decide (x = stars ∧ l = [])) && patL l
def patternB (s : ByteArray) : Bool := decide (s.size ≤ 32) && (patL (partsP s) && decide ((partsP s).length ≤ 4))
theorem all_pattern_l0 (l : List ByteArray) (hl : l.length ≤ 1000000) (M : Nat) (hM : M ≤ 1000) (hz : ∀ x ∈ l, x.size ≤ M) (d : Nat) : ∀ (k i : Nat), i + d = l.length → d + 3 * M + 5 ≤ k → pattern_all_by_pattern_Pattern_1.l0 k l l (l.length : Int) (i : Int) = some (patL (l.drop i) && decide (l.length ≤ 4)) := by
 induction d with
 | zero =>
  intro k i hi hk
  obtain ⟨k, rfl⟩ : ∃ k', k = k' + 1 := ⟨k - 1, by omega⟩
  have e : decide ((l.length : Int) ≤ 4) = decide (l.length ≤ 4) := decide_eq_decide.mpr (by omega)
  rw [pattern_all_by_pattern_Pattern_1.l0, if_neg (by omega), List.drop_eq_nil_of_le (by omega), e]
  rfl
 | succ d ih =>
  intro k i hi hk
  obtain ⟨k, rfl⟩ : ∃ k', k = k' + 1 := ⟨k - 1, by omega⟩
  have hx : l[i].size ≤ M := hz _ (List.getElem_mem _)
  have hn : l.drop (i + 1) = [] ↔ i + 1 = l.length := by
   rw [List.drop_eq_nil_iff]
   omega
  have hp : pattern_Pattern_1.f k (i : Int) (l.length : Int) l[i] = some (plainB l[i] || decide (l[i] = star) || decide (l[i] = stars ∧ l.drop (i + 1) = [])) := by
   unfold pattern_Pattern_1.f
   rw [bind_of (plain_some l[i] (by omega) k (by omega)), wrap_id (by omega) (by omega)]
   cases plainB l[i] with
   | true => rw [if_pos rfl, Bool.true_or, Bool.true_or]
   | false =>
    rw [if_neg (by decide), Bool.false_or]
    by_cases h1 : l[i] = star
    ·rw [if_pos ((is_star _).mpr h1), decide_eq_true h1, Bool.true_or]
    ·rw [if_neg (fun h => h1 ((is_star _).mp h)), decide_eq_false h1, Bool.false_or]
     by_cases h2 : l[i] = stars
     ·rw [if_pos ((is_stars _).mpr h2)]
      have e : ((i : Int) == (l.length : Int) - 1) = decide (l[i] = stars ∧ l.drop (i + 1) = []) := by
       rw [Bool.eq_iff_iff, beq_iff_eq, decide_eq_true_eq, hn]
       constructor
       ·intro h; exact ⟨h2, by omega⟩
       ·intro h; omega
      rw [e]
     ·rw [if_neg (fun h => h2 ((is_stars _).mp h)), decide_eq_false (fun h => h2 h.1)]
  rw [pattern_all_by_pattern_Pattern_1.l0, if_pos (by omega), if_pos (by omega), if_pos (by omega), rd_at8 l i (by omega), bind_of hp, (List.drop_eq_getElem_cons (by omega) : l.drop i = l[i] :: l.drop (i + 1)), patL, wrap_up (by omega) (by omega)]
  cases (plainB l[i] || decide (l[i] = star) || decide (l[i] = stars ∧ l.drop (i + 1) = [])) with
  | true => rw [if_pos rfl, Bool.true_and]; exact ih k (i + 1) (by omega) (by omega)
  | false => rw [if_neg (by decide), Bool.false_and, Bool.false_and]
theorem pattern_some (s : ByteArray) (k : Nat) (hk : 300 ≤ k) : pattern_Pattern.f k s = some (patternB s) := by
 have h : pattern_all_by_pattern_Pattern_1.f k s = some (patternB s) := by
  unfold pattern_all_by_pattern_Pattern_1.f patternB
  by_cases h : s.size ≤ 32
  ·have := parts_len s
   rw [if_neg (by omega), bind_of (parts_some s (by omega) k (by omega)), decide_eq_true h, Bool.true_and]
   exact all_pattern_l0 (partsP s) (by omega) 32 (by omega) (fun x hx => Nat.le_trans (parts_size s x hx) h) (partsP s).length k 0 (by omega) (by omega)
  ·rw [if_pos (by omega), decide_eq_false h, Bool.false_and]
 unfold pattern_Pattern.f
 rw [bind_of h]
theorem refpattern_l0 (l : List ByteArray) (hl : l.length ≤ 1000000) (M : Nat) (hM : M ≤ 1000) (hz : ∀ x ∈ l, x.size ≤ M) (d : Nat) : ∀ (k i : Nat), i + d = l.length → d + M + 5 ≤ k → surmiseref08_Pattern.l0 k l (i : Int) = some (patL (l.drop i) && decide (l.length ≤ 4)) := by
 induction d with
 | zero =>
  intro k i hi hk
  obtain ⟨k, rfl⟩ : ∃ k', k = k' + 1 := ⟨k - 1, by omega⟩
  have e : decide ((l.length : Int) ≤ 4) = decide (l.length ≤ 4) := decide_eq_decide.mpr (by omega)
  rw [surmiseref08_Pattern.l0, if_neg (by omega), List.drop_eq_nil_of_le (by omega), e]
  rfl
 | succ d ih =>
  intro k i hi hk
  obtain ⟨k, rfl⟩ : ∃ k', k = k' + 1 := ⟨k - 1, by omega⟩
  have hx : l[i].size ≤ M := hz _ (List.getElem_mem _)
  have hn : l.drop (i + 1) = [] ↔ i + 1 = l.length := by
   rw [List.drop_eq_nil_iff]
   omega
  have hi1 := ih k (i + 1) (by omega) (by omega)
  rw [surmiseref08_Pattern.l0, if_pos (by omega), if_pos (by omega), rd_at8 l i (by omega), bind_of (refplain_some l[i] (by omega) k (by omega)), List.drop_eq_getElem_cons (by omega), patL, wrap_up (by omega) (by omega)]
  have e1 : (i : Int) + 1 = ((i + 1 : Nat) : Int) := by omega
  rw [e1, hi1]
  cases plainB l[i] with
  | true => rw [if_pos rfl, Bool.true_or, Bool.true_or, Bool.true_and]
  | false =>
   rw [if_neg (by decide), Bool.false_or]
   by_cases h1 : l[i] = star
   ·rw [if_pos ((is_star _).mpr h1), decide_eq_true h1, Bool.true_or, Bool.true_and]
   ·rw [if_neg (fun h => h1 ((is_star _).mp h)), decide_eq_false h1, Bool.false_or]
    by_cases h2 : l[i] = stars
    ·rw [if_pos ((is_stars _).mpr h2)]
     by_cases h3 : i + 1 < l.length
     ·rw [if_pos (by omega), decide_eq_false (fun h => by have := hn.mp h.2; omega), Bool.false_and, Bool.false_and]
     ·have hc : l[i] = stars ∧ l.drop (i + 1) = [] := ⟨h2, hn.mpr (by omega)⟩
      rw [if_neg (by omega), decide_eq_true hc, Bool.true_and]
    ·rw [if_neg (fun h => h2 ((is_stars _).mp h)), decide_eq_false (fun h => h2 h.1), Bool.false_and, Bool.false_and]
theorem refpattern_some (s : ByteArray) (k : Nat) (hk : 300 ≤ k) : surmiseref08_Pattern.f k s = some (patternB s) := by
 unfold surmiseref08_Pattern.f patternB
 by_cases h : s.size ≤ 32
 ·have := parts_len s
  rw [if_neg (by omega), bind_of (refparts_some s (by omega) k (by omega)), decide_eq_true h, Bool.true_and]
  exact refpattern_l0 (partsP s) (by omega) 32 (by omega) (fun x hx => Nat.le_trans (parts_size s x hx) h) (partsP s).length k 0 (by omega) (by omega)
 ·rw [if_pos (by omega), decide_eq_false h, Bool.false_and]
def lessN : List Nat → List Nat → Bool
 | [], [] => false
 | [], _ :: _ => true
 | _ :: _, [] => false
 | a :: x, b :: y => if a = b then lessN x y else decide (a < b)
theorem lessN_bytes : ∀ x y : List UInt8, lessN (x.map (·.toNat)) (y.map (·.toNat)) = Op.bytesLess x y
 | [], [] => rfl
 | [], _ :: _ => rfl
 | _ :: _, [] => rfl
 | a :: x, b :: y => by
  have ih := lessN_bytes x y
  rw [List.map_cons, List.map_cons, lessN, Op.bytesLess, ih]
  by_cases h : a = b
  ·subst h
   have h1 : decide (a < a) = false := decide_eq_false (by simp)
   have h3 : (a == a) = true := by simp
   rw [if_pos rfl, h1, h3, Bool.false_or, Bool.true_and]
  ·have h3 : (a == b) = false := by simp [h]
   have hab : ¬ a.toNat = b.toNat := fun h' => h (UInt8.toNat_inj.mp h')
   rw [if_neg hab, h3, Bool.false_and, Bool.or_false]
   exact decide_eq_decide.mpr UInt8.lt_iff_toNat_lt.symm
theorem bytesLess_bl (s t : ByteArray) : Op.bytesLess s.toList t.toList = lessN (bl s) (bl t) := by
 rw [Go.Lib.toList_data, Go.Lib.toList_data, ← lessN_bytes]
 rfl
theorem less_l0 (s t : ByteArray) (hs : s.size ≤ 140737488351232) (d : Nat) : ∀ (k i : Nat), i + d = s.size → i ≤ t.size → 2 * d + 2 ≤ k → surmiseref08_Less.l0 k s t (i : Int) = some (lessN ((bl s).drop i) ((bl t).drop i)) := by
 induction d with
 | zero =>
  intro k i hi ht hk
  obtain ⟨k, rfl⟩ : ∃ k', k = k' + 2 := ⟨k - 2, by omega⟩
  rw [surmiseref08_Less.l0, if_neg (by omega), surmiseref08_Less.j1, if_neg (by decide)]
  have e : (bl s).drop i = [] := List.drop_eq_nil_of_le (by rw [bl_length]; omega)
  rw [e]
  by_cases h : i < t.size
  ·rw [bl_drop t i h, lessN, decide_eq_true (by omega)]
  ·have e2 : (bl t).drop i = [] := List.drop_eq_nil_of_le (by rw [bl_length]; omega)
   rw [e2, lessN, decide_eq_false (by omega)]
 | succ d ih =>
  intro k i hi ht hk
  obtain ⟨k, rfl⟩ : ∃ k', k = k' + 2 := ⟨k - 2, by omega⟩
  rw [surmiseref08_Less.l0, if_pos (by omega), surmiseref08_Less.j1, bl_drop s i (by omega)]
  by_cases h : i < t.size
  ·have e : wrap64 ((i : Int) + 1) = ((i + 1 : Nat) : Int) := wrap_up (by omega) (by omega)
   rw [decide_eq_true (by omega), if_pos rfl, if_pos (by omega), if_pos (by omega), if_pos (by omega), bl_drop t i h, lessN, bl_bt s i (by omega), bl_bt t i h, e]
   by_cases h2 : (bl s)[i]'(by rw [bl_length]; omega) = (bl t)[i]'(by rw [bl_length]; omega)
   ·rw [if_pos (by omega), if_pos h2]
    exact ih k (i + 1) (by omega) (by omega) (by omega)
   ·rw [if_neg (by omega), if_neg h2]
    exact congrArg some (decide_eq_decide.mpr (by omega))
  ·have e2 : (bl t).drop i = [] := List.drop_eq_nil_of_le (by rw [bl_length]; omega)
   rw [decide_eq_false (by omega), if_neg (by decide), e2, lessN, decide_eq_false (by omega)]
theorem less_some (s t : ByteArray) (hs : s.size ≤ 140737488351232) (k : Nat) (hk : 2 * s.size + 2 ≤ k) : surmiseref08_Less.f k s t = some (lessN (bl s) (bl t)) :=
 less_l0 s t hs s.size k 0 (by omega) (by omega) (by omega)
def wiB (n a b : Int) : Bool := decide (a ≤ n ∧ n ≤ b)
theorem within_some (n a b : Int) : codec_within.f n a b = some (wiB n a b) := by
 unfold codec_within.f wiB
 by_cases h : n ≥ a
 ·rw [if_pos h]
  exact congrArg some (decide_eq_decide.mpr ⟨fun h2 => ⟨h, h2⟩, fun h2 => h2.2⟩)
 ·rw [if_neg h, decide_eq_false (fun h2 => h h2.1)]
theorem refwithin_some (n a b : Int) : surmiseref10_within.f n a b = some (wiB n a b) := by
 unfold surmiseref10_within.f wiB
 by_cases h : n ≥ a
 ·rw [if_pos h]
  exact congrArg some (decide_eq_decide.mpr ⟨fun h2 => ⟨h, h2⟩, fun h2 => h2.2⟩)
 ·rw [if_neg h, decide_eq_false (fun h2 => h h2.1)]
theorem refvalue_some (n : Int) : surmiseref03_Value.f n = some (wiB n (-1099511627776) 1099511627776) := by
 unfold surmiseref03_Value.f wiB
 by_cases h : n ≥ (-1099511627776)
 ·rw [if_pos h]
  exact congrArg some (decide_eq_decide.mpr ⟨fun h2 => ⟨h, h2⟩, fun h2 => h2.2⟩)
 ·rw [if_neg h, decide_eq_false (fun h2 => h h2.1)]
def vB (n : Int) : Bool := wiB n (-1099511627776) 1099511627776
theorem prevdown {i : Nat} (h : 0 < i) (hi : i < 9223372036854775807) : wrap64 ((i : Int) - 1) = ((i - 1 : Nat) : Int) := by
 rw [wrap_id (by omega) (by omega)]
 omega
def chainB {α : Type} (P : α → Bool) (R : α → α → Bool) : Option α → List α → Bool
 | _, [] => true
 | none, x :: l => P x && chainB P R (some x) l
 | some p, x :: l => P x && (R p x && chainB P R (some x) l)
def prevO {α : Type} (l : List α) (i : Nat) : Option α := if i = 0 then none else l[i - 1]?
theorem prevO_next {α : Type} (l : List α) (i : Nat) (h : i < l.length) : prevO l (i + 1) = some l[i] := by
 unfold prevO
 rw [if_neg (by omega), Nat.add_sub_cancel]
 exact List.getElem?_eq_getElem h
theorem prevO_some {α : Type} (l : List α) (i : Nat) (h : 0 < i) (h2 : i < l.length) : prevO l i = some (l[i - 1]'(by omega)) := by
 unfold prevO
 rw [if_neg (by omega)]
 exact List.getElem?_eq_getElem _
theorem prevO_zero {α : Type} (l : List α) : prevO l 0 = none := if_pos rfl
theorem rdI_at (l : List S93) (i : Nat) (h : i < l.length) : rd_T93 l (i : Int) = l[i] := by simp [rd_T93, h]
theorem rdV_at (l : List S97) (i : Nat) (h : i < l.length) : rd_T97 l (i : Int) = l[i] := by simp [rd_T97, h]
theorem values_l0 (l : List Int) (hl : l.length < 9223372036854775807) (m : Int) (d : Nat) : ∀ (k i : Nat), i + d = l.length → d + 1 ≤ k → codec_values.l0 k l m l (l.length : Int) (i : Int) = some ((l.drop i).all vB && decide ((l.length : Int) ≤ m)) := by
 induction d with
 | zero =>
  intro k i hi hk
  obtain ⟨k, rfl⟩ : ∃ k', k = k' + 1 := ⟨k - 1, by omega⟩
  rw [codec_values.l0, if_neg (by omega), List.drop_eq_nil_of_le (by omega)]
  rfl
 | succ d ih =>
  intro k i hi hk
  obtain ⟨k, rfl⟩ : ∃ k', k = k' + 1 := ⟨k - 1, by omega⟩
  have hs := ih k (i + 1) (by omega) (by omega)
  rw [codec_values.l0, if_pos (by omega), if_pos (by omega), if_pos (by omega), rd_at l i (by omega), bind_of (within_some _ _ _), (List.drop_eq_getElem_cons (by omega) : l.drop i = l[i] :: l.drop (i + 1)), List.all_cons, wrap_up (by omega) (by omega)]
  show (if vB l[i] = true then _ else _) = _
  cases hb : vB l[i] with
  | true => rw [if_pos rfl, Bool.true_and]; exact hs
  | false => rw [if_neg (by decide), Bool.false_and, Bool.false_and]
theorem refvalues_l0 (l : List Int) (hl : l.length < 9223372036854775807) (m : Int) (d : Nat) : ∀ (k i : Nat), i + d = l.length → d + 1 ≤ k → surmiseref10_Values.l0 k l m (i : Int) = some ((l.drop i).all vB && decide ((l.length : Int) ≤ m)) := by
 induction d with
 | zero =>
  intro k i hi hk
  obtain ⟨k, rfl⟩ : ∃ k', k = k' + 1 := ⟨k - 1, by omega⟩
  rw [surmiseref10_Values.l0, if_neg (by omega), List.drop_eq_nil_of_le (by omega)]
  rfl
 | succ d ih =>
  intro k i hi hk
  obtain ⟨k, rfl⟩ : ∃ k', k = k' + 1 := ⟨k - 1, by omega⟩
  have hs := ih k (i + 1) (by omega) (by omega)
  rw [surmiseref10_Values.l0, if_pos (by omega), if_pos (by omega), rd_at l i (by omega), bind_of (refvalue_some _), (List.drop_eq_getElem_cons (by omega) : l.drop i = l[i] :: l.drop (i + 1)), List.all_cons, wrap_up (by omega) (by omega)]
  show (if vB l[i] = true then _ else _) = _
  cases hb : vB l[i] with
  | true => rw [if_pos rfl, Bool.true_and]; exact hs
  | false => rw [if_neg (by decide), Bool.false_and, Bool.false_and]
def valB (l : List Int) (m : Int) : Bool := l.all vB && decide ((l.length : Int) ≤ m)
theorem values_some (l : List Int) (hl : l.length < 9223372036854775807) (m : Int) (k : Nat) (hk : l.length + 1 ≤ k) : codec_values.f k l m = some (valB l m) := by
 unfold codec_values.f valB
 exact values_l0 l hl m l.length k 0 (by omega) hk
theorem refvalues_some (l : List Int) (hl : l.length < 9223372036854775807) (m : Int) (k : Nat) (hk : l.length + 1 ≤ k) : surmiseref10_Values.f k l m = some (valB l m) := by
 unfold surmiseref10_Values.f valB
 exact refvalues_l0 l hl m l.length k 0 (by omega) hk
theorem event_some (a : Int) (l : List Int) (hl : l.length < 9223372036854775807) (k : Nat) (hk : l.length + 1 ≤ k) : codec_event.f k a l = some (wiB a 0 7 && valB l 6) := by
 unfold codec_event.f
 rw [bind_of (within_some _ _ _)]
 cases wiB a 0 7 with
 | false => rfl
 | true => rw [if_pos rfl, bind_of (values_some l hl 6 k hk), Bool.true_and]
def staB (s : S91) : Bool := wiB s.f0 0 7 && (valB s.f2 6 && wiB s.f1 0 1099511627776)
theorem state_some (a v : Int) (l : List Int) (hl : l.length < 9223372036854775807) (k : Nat) (hk : l.length + 1 ≤ k) : codec_state.f k a v l = some (wiB a 0 7 && (valB l 6 && wiB v 0 1099511627776)) := by
 unfold codec_state.f
 rw [bind_of (event_some a l hl k hk)]
 cases wiB a 0 7 with
 | false => rfl
 | true =>
  rw [Bool.true_and, Bool.true_and]
  cases valB l 6 with
  | false => rfl
  | true => rw [if_pos rfl, bind_of (within_some _ _ _), Bool.true_and]
theorem refstate_some (a v : Int) (l : List Int) (hl : l.length < 9223372036854775807) (k : Nat) (hk : l.length + 1 ≤ k) : surmiseref10_State.f k a v l = some (wiB a 0 7 && (valB l 6 && wiB v 0 1099511627776)) := by
 unfold surmiseref10_State.f
 rw [bind_of (refwithin_some _ _ _)]
 cases wiB a 0 7 with
 | false => rfl
 | true =>
  rw [if_pos rfl, bind_of (refwithin_some _ _ _), Bool.true_and]
  cases wiB v 0 1099511627776 with
  | false => rw [if_neg (by decide), Bool.and_false]
  | true => rw [if_pos rfl, bind_of (refvalues_some l hl 6 k hk), Bool.and_true]
def itB (x : S93) : Bool := streamB x.f0 && staB x.f1
def itR (p x : S93) : Bool := lessN (bl p.f0) (bl x.f0)
def verB (x : S97) : Bool := wiB x.f0 1 1099511627776 && wiB x.f1 0 63
def verR (p x : S97) : Bool := !decide (x.f0 ≤ p.f0)
theorem items_l0 (l : List S93) (hl : l.length < 9223372036854775807) (M : Nat) (hz : ∀ x ∈ l, x.f1.f2.length + 300 ≤ M ∧ x.f1.f2.length < 9223372036854775807 ∧ x.f0.size ≤ 140737488351232 ∧ 2 * x.f0.size + 2 ≤ M) (d : Nat) : ∀ (k i : Nat), i + d = l.length → d + M + 1 ≤ k → codec_items.l0 k l l (l.length : Int) (i : Int) = some (chainB itB itR (prevO l i) (l.drop i) && decide ((l.length : Int) ≤ 64)) := by
 induction d with
 | zero =>
  intro k i hi hk
  obtain ⟨k, rfl⟩ : ∃ k', k = k' + 1 := ⟨k - 1, by omega⟩
  rw [codec_items.l0, if_neg (by omega), List.drop_eq_nil_of_le (by omega), chainB]
  rfl
 | succ d ih =>
  intro k i hi hk
  obtain ⟨k, rfl⟩ : ∃ k', k = k' + 1 := ⟨k - 1, by omega⟩
  have hs := ih k (i + 1) (by omega) (by omega)
  rw [prevO_next l i (by omega)] at hs
  have hgo : ∀ b : Bool, b = itB l[i] → (if b = true then (if (i : Int) > 0 then (if 0 ≤ (wrap64 ((i : Int) - 1)) then (if (wrap64 ((i : Int) - 1)) < (l.length : Int) then (if ((Op.bytesLess (((rd_T93 l (wrap64 ((i : Int) - 1))).f0).toList) ((l[i].f0).toList)) = true) then (codec_items.l0 k l l (l.length : Int) (wrap64 ((i : Int) + 1))) else (some false)) else none) else none) else (codec_items.l0 k l l (l.length : Int) (wrap64 ((i : Int) + 1)))) else some false) = some (chainB itB itR (prevO l i) (l.drop i) && decide ((l.length : Int) ≤ 64)) := by
   intro b hb
   rw [(List.drop_eq_getElem_cons (by omega) : l.drop i = l[i] :: l.drop (i + 1)), wrap_up (by omega) (by omega)]
   cases b with
   | false =>
    rw [if_neg (by decide)]
    cases prevO l i with
    | none => rw [chainB, ← hb, Bool.false_and, Bool.false_and]
    | some p => rw [chainB, ← hb, Bool.false_and, Bool.false_and]
   | true =>
    rw [if_pos rfl]
    by_cases h0 : i = 0
    ·subst h0
     rw [if_neg (by omega), prevO_zero, chainB, ← hb, Bool.true_and]
     exact hs
    ·rw [if_pos (by omega), prevdown (by omega) (by omega), if_pos (by omega), if_pos (by omega), prevO_some l i (by omega) (by omega), chainB, ← hb, Bool.true_and]
     rw [rdI_at l (i - 1) (by omega), bytesLess_bl]
     show (if itR _ _ = true then _ else _) = _
     cases itR (l[i - 1]'(by omega)) l[i] with
     | true => rw [if_pos rfl, Bool.true_and]; exact hs
     | false => rw [if_neg (by decide), Bool.false_and, Bool.false_and]
  rw [codec_items.l0, if_pos (by omega), if_pos (by omega), if_pos (by omega)]
  have hm := hz l[i] (List.getElem_mem _)
  rw [rdI_at l i (by omega), bind_of (stream_some l[i].f0 k (by omega))]
  cases h1 : streamB l[i].f0 with
  | false => rw [if_neg (by decide)]; have := hgo false (by unfold itB; rw [h1]; rfl); rw [if_neg (by decide)] at this; exact this
  | true =>
   rw [if_pos rfl, bind_of (state_some l[i].f1.f0 l[i].f1.f1 l[i].f1.f2 hm.2.1 k (by omega))]
   exact hgo (staB l[i].f1) (by unfold itB; rw [h1, Bool.true_and])
theorem refitems_l0 (l : List S93) (hl : l.length < 9223372036854775807) (M : Nat) (hz : ∀ x ∈ l, x.f1.f2.length + 300 ≤ M ∧ x.f1.f2.length < 9223372036854775807 ∧ x.f0.size ≤ 140737488351232 ∧ 2 * x.f0.size + 2 ≤ M) (d : Nat) : ∀ (k i : Nat), i + d = l.length → d + M + 1 ≤ k → surmiseref10_Items.l0 k l (i : Int) = some (chainB itB itR (prevO l i) (l.drop i) && decide ((l.length : Int) ≤ 64)) := by
 induction d with
 | zero =>
  intro k i hi hk
  obtain ⟨k, rfl⟩ : ∃ k', k = k' + 1 := ⟨k - 1, by omega⟩
  rw [surmiseref10_Items.l0, if_neg (by omega), List.drop_eq_nil_of_le (by omega), chainB]
  rfl
 | succ d ih =>
  intro k i hi hk
  obtain ⟨k, rfl⟩ : ∃ k', k = k' + 1 := ⟨k - 1, by omega⟩
  have hs := ih k (i + 1) (by omega) (by omega)
  rw [prevO_next l i (by omega)] at hs
  have hgo : ∀ b : Bool, b = itB l[i] → (if b = true then (if (i : Int) > 0 then (if 0 ≤ (wrap64 ((i : Int) - 1)) then (if (wrap64 ((i : Int) - 1)) < (l.length : Int) then ((surmiseref08_Less.f k ((rd_T93 l (wrap64 ((i : Int) - 1))).f0) (l[i].f0)).bind fun t425 => (if t425 = true then (surmiseref10_Items.l0 k l (wrap64 ((i : Int) + 1))) else (some false))) else none) else none) else (surmiseref10_Items.l0 k l (wrap64 ((i : Int) + 1)))) else some false) = some (chainB itB itR (prevO l i) (l.drop i) && decide ((l.length : Int) ≤ 64)) := by
   intro b hb
   rw [(List.drop_eq_getElem_cons (by omega) : l.drop i = l[i] :: l.drop (i + 1)), wrap_up (by omega) (by omega)]
   cases b with
   | false =>
    rw [if_neg (by decide)]
    cases prevO l i with
    | none => rw [chainB, ← hb, Bool.false_and, Bool.false_and]
    | some p => rw [chainB, ← hb, Bool.false_and, Bool.false_and]
   | true =>
    rw [if_pos rfl]
    by_cases h0 : i = 0
    ·subst h0
     rw [if_neg (by omega), prevO_zero, chainB, ← hb, Bool.true_and]
     exact hs
    ·rw [if_pos (by omega), prevdown (by omega) (by omega), if_pos (by omega), if_pos (by omega), prevO_some l i (by omega) (by omega), chainB, ← hb, Bool.true_and]
     have hm := hz (l[i - 1]'(by omega)) (List.getElem_mem _)
     rw [rdI_at l (i - 1) (by omega), bind_of (less_some _ _ hm.2.2.1 k (by omega))]
     show (if itR _ _ = true then _ else _) = _
     cases itR (l[i - 1]'(by omega)) l[i] with
     | true => rw [if_pos rfl, Bool.true_and]; exact hs
     | false => rw [if_neg (by decide), Bool.false_and, Bool.false_and]
  rw [surmiseref10_Items.l0, if_pos (by omega), if_pos (by omega)]
  have hm := hz l[i] (List.getElem_mem _)
  rw [rdI_at l i (by omega), bind_of (refstream_some l[i].f0 k (by omega))]
  cases h1 : streamB l[i].f0 with
  | false => rw [if_neg (by decide)]; have := hgo false (by unfold itB; rw [h1]; rfl); rw [if_neg (by decide)] at this; exact this
  | true =>
   rw [if_pos rfl, bind_of (refstate_some l[i].f1.f0 l[i].f1.f1 l[i].f1.f2 hm.2.1 k (by omega))]
   exact hgo (staB l[i].f1) (by unfold itB; rw [h1, Bool.true_and])
theorem verdicts_l0 (l : List S97) (hl : l.length < 9223372036854775807) (d : Nat) : ∀ (k i : Nat), i + d = l.length → d + 1 ≤ k → codec_verdicts.l0 k l l (l.length : Int) (i : Int) = some (chainB verB verR (prevO l i) (l.drop i) && decide ((l.length : Int) ≤ 32)) := by
 induction d with
 | zero =>
  intro k i hi hk
  obtain ⟨k, rfl⟩ : ∃ k', k = k' + 1 := ⟨k - 1, by omega⟩
  rw [codec_verdicts.l0, if_neg (by omega), List.drop_eq_nil_of_le (by omega), chainB]
  rfl
 | succ d ih =>
  intro k i hi hk
  obtain ⟨k, rfl⟩ : ∃ k', k = k' + 1 := ⟨k - 1, by omega⟩
  have hs := ih k (i + 1) (by omega) (by omega)
  rw [prevO_next l i (by omega)] at hs
  have hgo : ∀ b : Bool, b = verB l[i] → (if b = true then (if (i : Int) > 0 then (if 0 ≤ (wrap64 ((i : Int) - 1)) then (if (wrap64 ((i : Int) - 1)) < (l.length : Int) then (if (l[i].f0) ≤ ((rd_T97 l (wrap64 ((i : Int) - 1))).f0) then (some false) else (codec_verdicts.l0 k l l (l.length : Int) (wrap64 ((i : Int) + 1)))) else none) else none) else (codec_verdicts.l0 k l l (l.length : Int) (wrap64 ((i : Int) + 1)))) else some false) = some (chainB verB verR (prevO l i) (l.drop i) && decide ((l.length : Int) ≤ 32)) := by
   intro b hb
   rw [(List.drop_eq_getElem_cons (by omega) : l.drop i = l[i] :: l.drop (i + 1)), wrap_up (by omega) (by omega)]
   cases b with
   | false =>
    rw [if_neg (by decide)]
    cases prevO l i with
    | none => rw [chainB, ← hb, Bool.false_and, Bool.false_and]
    | some p => rw [chainB, ← hb, Bool.false_and, Bool.false_and]
   | true =>
    rw [if_pos rfl]
    by_cases h0 : i = 0
    ·subst h0
     rw [if_neg (by omega), prevO_zero, chainB, ← hb, Bool.true_and]
     exact hs
    ·rw [if_pos (by omega), prevdown (by omega) (by omega), if_pos (by omega), if_pos (by omega), prevO_some l i (by omega) (by omega), chainB, ← hb, Bool.true_and]
     rw [rdV_at l (i - 1) (by omega)]
     unfold verR
     by_cases h : l[i].f0 ≤ (l[i - 1]'(by omega)).f0
     ·rw [if_pos h, decide_eq_true h]; rfl
     ·rw [if_neg h, decide_eq_false h]; exact hs
  rw [codec_verdicts.l0, if_pos (by omega), if_pos (by omega), if_pos (by omega)]
  rw [rdV_at l i (by omega), bind_of (within_some _ _ _)]
  cases h1 : wiB l[i].f0 1 1099511627776 with
  | false => rw [if_neg (by decide)]; have := hgo false (by unfold verB; rw [h1]; rfl); rw [if_neg (by decide)] at this; exact this
  | true =>
   rw [if_pos rfl, bind_of (within_some _ _ _)]
   exact hgo (wiB l[i].f1 0 63) (by unfold verB; rw [h1, Bool.true_and])
theorem refverdicts_l0 (l : List S97) (hl : l.length < 9223372036854775807) (d : Nat) : ∀ (k i : Nat), i + d = l.length → d + 1 ≤ k → surmiseref10_Verdicts.l0 k l (i : Int) = some (chainB verB verR (prevO l i) (l.drop i) && decide ((l.length : Int) ≤ 32)) := by
 induction d with
 | zero =>
  intro k i hi hk
  obtain ⟨k, rfl⟩ : ∃ k', k = k' + 1 := ⟨k - 1, by omega⟩
  rw [surmiseref10_Verdicts.l0, if_neg (by omega), List.drop_eq_nil_of_le (by omega), chainB]
  rfl
 | succ d ih =>
  intro k i hi hk
  obtain ⟨k, rfl⟩ : ∃ k', k = k' + 1 := ⟨k - 1, by omega⟩
  have hs := ih k (i + 1) (by omega) (by omega)
  rw [prevO_next l i (by omega)] at hs
  have hgo : ∀ b : Bool, b = verB l[i] → (if b = true then (if (i : Int) > 0 then (if 0 ≤ (wrap64 ((i : Int) - 1)) then (if (wrap64 ((i : Int) - 1)) < (l.length : Int) then (if (l[i].f0) ≤ ((rd_T97 l (wrap64 ((i : Int) - 1))).f0) then (some false) else (surmiseref10_Verdicts.l0 k l (wrap64 ((i : Int) + 1)))) else none) else none) else (surmiseref10_Verdicts.l0 k l (wrap64 ((i : Int) + 1)))) else some false) = some (chainB verB verR (prevO l i) (l.drop i) && decide ((l.length : Int) ≤ 32)) := by
   intro b hb
   rw [(List.drop_eq_getElem_cons (by omega) : l.drop i = l[i] :: l.drop (i + 1)), wrap_up (by omega) (by omega)]
   cases b with
   | false =>
    rw [if_neg (by decide)]
    cases prevO l i with
    | none => rw [chainB, ← hb, Bool.false_and, Bool.false_and]
    | some p => rw [chainB, ← hb, Bool.false_and, Bool.false_and]
   | true =>
    rw [if_pos rfl]
    by_cases h0 : i = 0
    ·subst h0
     rw [if_neg (by omega), prevO_zero, chainB, ← hb, Bool.true_and]
     exact hs
    ·rw [if_pos (by omega), prevdown (by omega) (by omega), if_pos (by omega), if_pos (by omega), prevO_some l i (by omega) (by omega), chainB, ← hb, Bool.true_and]
     rw [rdV_at l (i - 1) (by omega)]
     unfold verR
     by_cases h : l[i].f0 ≤ (l[i - 1]'(by omega)).f0
     ·rw [if_pos h, decide_eq_true h]; rfl
     ·rw [if_neg h, decide_eq_false h]; exact hs
  rw [surmiseref10_Verdicts.l0, if_pos (by omega), if_pos (by omega)]
  rw [rdV_at l i (by omega), bind_of (refwithin_some _ _ _)]
  cases h1 : wiB l[i].f0 1 1099511627776 with
  | false => rw [if_neg (by decide)]; have := hgo false (by unfold verB; rw [h1]; rfl); rw [if_neg (by decide)] at this; exact this
  | true =>
   rw [if_pos rfl, bind_of (refwithin_some _ _ _)]
   exact hgo (wiB l[i].f1 0 63) (by unfold verB; rw [h1, Bool.true_and])
def itemsB (l : List S93) : Bool := chainB itB itR none l && decide ((l.length : Int) ≤ 64)
def verdictsB (l : List S97) : Bool := chainB verB verR none l && decide ((l.length : Int) ≤ 32)
theorem items_some (l : List S93) (hl : l.length < 9223372036854775807) (M : Nat) (hz : ∀ x ∈ l, x.f1.f2.length + 300 ≤ M ∧ x.f1.f2.length < 9223372036854775807 ∧ x.f0.size ≤ 140737488351232 ∧ 2 * x.f0.size + 2 ≤ M) (k : Nat) (hk : l.length + (M + 1) ≤ k) : codec_items.f k l = some (itemsB l) := by
 unfold codec_items.f itemsB
 have h := items_l0 l hl M hz l.length k 0 (by omega) hk
 rw [prevO_zero] at h
 exact h
theorem refitems_some (l : List S93) (hl : l.length < 9223372036854775807) (M : Nat) (hz : ∀ x ∈ l, x.f1.f2.length + 300 ≤ M ∧ x.f1.f2.length < 9223372036854775807 ∧ x.f0.size ≤ 140737488351232 ∧ 2 * x.f0.size + 2 ≤ M) (k : Nat) (hk : l.length + (M + 1) ≤ k) : surmiseref10_Items.f k l = some (itemsB l) := by
 unfold surmiseref10_Items.f itemsB
 have h := refitems_l0 l hl M hz l.length k 0 (by omega) hk
 rw [prevO_zero] at h
 exact h
theorem verdicts_some (l : List S97) (hl : l.length < 9223372036854775807) (k : Nat) (hk : l.length + 1 ≤ k) : codec_verdicts.f k l = some (verdictsB l) := by
 unfold codec_verdicts.f verdictsB
 have h := verdicts_l0 l hl l.length k 0 (by omega) hk
 rw [prevO_zero] at h
 exact h
theorem refverdicts_some (l : List S97) (hl : l.length < 9223372036854775807) (k : Nat) (hk : l.length + 1 ≤ k) : surmiseref10_Verdicts.f k l = some (verdictsB l) := by
 unfold surmiseref10_Verdicts.f verdictsB
 have h := refverdicts_l0 l hl l.length k 0 (by omega) hk
 rw [prevO_zero] at h
 exact h
def filB (l : List ByteArray) : Bool := decide (l.length ≤ 8) && l.all patternB
theorem check_l0 (l : List ByteArray) (hl : l.length < 9223372036854775807) (d : Nat) : ∀ (k i : Nat), i + d = l.length → d + 301 ≤ k → ∃ r, filter_Check.l0 k l (l.length : Int) (i : Int) = some r ∧ (r.2 == 0) = (l.drop i).all patternB := by
 induction d with
 | zero =>
  intro k i hi hk
  obtain ⟨k, rfl⟩ : ∃ k', k = k' + 1 := ⟨k - 1, by omega⟩
  rw [filter_Check.l0, if_neg (by omega), List.drop_eq_nil_of_le (by omega)]
  exact ⟨_, rfl, rfl⟩
 | succ d ih =>
  intro k i hi hk
  obtain ⟨k, rfl⟩ : ∃ k', k = k' + 1 := ⟨k - 1, by omega⟩
  have hs := ih k (i + 1) (by omega) (by omega)
  rw [filter_Check.l0, if_pos (by omega), if_pos (by omega), if_pos (by omega), rdOf_at l i (by omega), bind_of (pattern_some l[i] k (by omega)), (List.drop_eq_getElem_cons (by omega) : l.drop i = l[i] :: l.drop (i + 1)), List.all_cons, wrap_up (by omega) (by omega)]
  cases patternB l[i] with
  | true => rw [if_pos rfl, Bool.true_and]; exact hs
  | false => rw [if_neg (by decide), Bool.false_and]; exact ⟨_, rfl, rfl⟩
theorem check_some (l : List ByteArray) (hl : l.length < 9223372036854775807) (k : Nat) (hk : l.length + 301 ≤ k) : ∃ r, filter_Check.f k l = some r ∧ (r.2 == 0) = filB l := by
 unfold filter_Check.f filB
 by_cases h : l.length ≤ 8
 ·rw [if_neg (by omega), decide_eq_true h, Bool.true_and]
  exact check_l0 l hl l.length k 0 (by omega) (by omega)
 ·rw [if_pos (by omega), decide_eq_false h]
  exact ⟨_, rfl, rfl⟩
theorem refcheck_l0 (l : List ByteArray) (hl : l.length < 9223372036854775807) (d : Nat) : ∀ (k i : Nat), i + d = l.length → d + 301 ≤ k → ∃ r, surmiseref09_Check.l0 k l (i : Int) = some r ∧ (r.2 == 0) = (l.drop i).all patternB := by
 induction d with
 | zero =>
  intro k i hi hk
  obtain ⟨k, rfl⟩ : ∃ k', k = k' + 1 := ⟨k - 1, by omega⟩
  rw [surmiseref09_Check.l0, if_neg (by omega), List.drop_eq_nil_of_le (by omega)]
  exact ⟨_, rfl, rfl⟩
 | succ d ih =>
  intro k i hi hk
  obtain ⟨k, rfl⟩ : ∃ k', k = k' + 1 := ⟨k - 1, by omega⟩
  have hs := ih k (i + 1) (by omega) (by omega)
  rw [surmiseref09_Check.l0, if_pos (by omega), if_pos (by omega), rdOf_at l i (by omega), bind_of (refpattern_some l[i] k (by omega)), (List.drop_eq_getElem_cons (by omega) : l.drop i = l[i] :: l.drop (i + 1)), List.all_cons, wrap_up (by omega) (by omega)]
  cases patternB l[i] with
  | true => rw [if_pos rfl, Bool.true_and]; exact hs
  | false => rw [if_neg (by decide), Bool.false_and]; exact ⟨_, rfl, rfl⟩
theorem refcheck_some (l : List ByteArray) (hl : l.length < 9223372036854775807) (k : Nat) (hk : l.length + 301 ≤ k) : ∃ r, surmiseref09_Check.f k l = some r ∧ (r.2 == 0) = filB l := by
 unfold surmiseref09_Check.f filB
 by_cases h : l.length ≤ 8
 ·rw [if_neg (by omega), decide_eq_true h, Bool.true_and]
  exact refcheck_l0 l hl l.length k 0 (by omega) (by omega)
 ·rw [if_pos (by omega), decide_eq_false h]
  exact ⟨_, rfl, rfl⟩
theorem bytesOf_append (a b : ByteArray) : bytesOf (a ++ b) = bytesOf a ++ bytesOf b := by
 rw [bytesOf_bl, bytesOf_bl, bytesOf_bl, bl_append, List.map_append]
theorem bytesOf_nil : bytesOf (⟨#[]⟩ : ByteArray) = [] := rfl
theorem nil_app (a : ByteArray) : (⟨#[]⟩ : ByteArray) ++ a = a := bl_inj (by rw [bl_append]; rfl)
def catB {α : Type} (B : α → ByteArray) (l : List α) : ByteArray := catP (fun x => (B x, (0 : Int))) l
def listB {α : Type} (B : α → ByteArray) (l : List α) : ByteArray := numB (l.length : Int) ++ catB B l
def numsB (l : List Int) : ByteArray := catB numB l
def textR (s : ByteArray) : ByteArray := numB (s.size : Int) ++ s
theorem catB_nil {α : Type} (B : α → ByteArray) : catB B [] = ⟨#[]⟩ := rfl
theorem catB_cons {α : Type} (B : α → ByteArray) (x : α) (l : List α) : catB B (x :: l) = B x ++ catB B l := rfl
theorem catB_size {α : Type} (B : α → ByteArray) (M : Nat) (l : List α) (h : ∀ x ∈ l, (B x).size ≤ M) : (catB B l).size ≤ M * l.length := catP_size _ M l h
theorem numsB_size (l : List Int) : (numsB l).size ≤ 10 * l.length := catB_size numB 10 l (fun x _ => numB_size x)
theorem numsB_two (a b : Int) : numsB [a, b] = numB a ++ numB b := by
 unfold numsB
 rw [catB_cons, catB_cons, catB_nil, app_nil]
theorem numsB_one (a : Int) : numsB [a] = numB a := by
 unfold numsB
 rw [catB_cons, catB_nil, app_nil]
theorem listInts_size (l : List Int) : (listB numB l).size ≤ 10 + 10 * l.length := by
 have h1 := numB_size (l.length : Int)
 have h2 := catB_size numB 10 l (fun x _ => numB_size x)
 unfold listB
 rw [size_app]
 omega
theorem textR_size (s : ByteArray) : (textR s).size ≤ 10 + s.size := by
 have := numB_size (s.size : Int)
 unfold textR
 rw [size_app]
 omega
theorem numbersP_le (l : List Int) : (numbersP l).1.size ≤ 10000000 := by
 by_cases h : 256 < l.length
 ·unfold numbersP
  rw [if_pos h]
  exact Nat.zero_le _
 ·exact numbersP_size l (by
   unfold numbersP
   rw [if_neg h, listP_all _ _ _ (fun _ _ => rfl)])
theorem numbersP_short (l : List Int) (h : l.length ≤ 256) : numbersP l = (listB numB l, 0) := by
 unfold numbersP
 rw [if_neg (by omega), listP_all _ _ _ (fun _ _ => rfl)]
 rfl
theorem textP_short (s : ByteArray) (h : s.size ≤ 4096) : textP s = (textR s, 0) := by
 unfold textP
 rw [if_neg (by omega)]
 rfl
theorem number_l0 (l : List Int) (h : ∀ n ∈ l, (Lit.int .i64 n).wf = true) (hl : l.length ≤ 1048576) (d : Nat) : ∀ (k i : Nat) (acc : ByteArray), i + d = l.length → d + 1 ≤ k → acc.size + 10 * d < 140737488355328 →
  codec_number.l0 k (bytesOf acc) l (l.length : Int) (i : Int) = some (bytesOf (acc ++ numsB (l.drop i))) := by
 induction d with
 | zero =>
  intro k i acc hi hk ha
  obtain ⟨k, rfl⟩ : ∃ m, k = m + 1 := ⟨k - 1, by omega⟩
  rw [codec_number.l0, if_neg (by omega), List.drop_of_length_le (by omega), numsB, catB_nil, app_nil]
 | succ d ih =>
  intro k i acc hi hk ha
  obtain ⟨k, rfl⟩ : ∃ m, k = m + 1 := ⟨k - 1, by omega⟩
  have hlt : i < l.length := by omega
  have hb := i64_of (h _ (List.getElem_mem hlt))
  have hs := numB_size l[i]
  rw [codec_number.l0, if_pos (by omega), if_pos (by omega), if_pos (by omega), rd_at l i hlt, bind_of (number_some _ hb.1 hb.2), if_pos (by rw [bytesOf_length]; omega), wrap_up (by omega) (by omega), List.drop_eq_getElem_cons hlt, ← bytesOf_append]
  have := ih k (i + 1) (acc ++ numB l[i]) (by omega) (by omega) (by rw [size_app]; omega)
  rw [app_assoc] at this
  exact this
theorem codecnumber_some (l : List Int) (h : ∀ n ∈ l, (Lit.int .i64 n).wf = true) (hl : l.length ≤ 1048576) (acc : ByteArray) (ha : acc.size + 10 * l.length < 140737488355328) (k : Nat) (hk : l.length + 1 ≤ k) :
  codec_number.f k (bytesOf acc) l = some (bytesOf (acc ++ numsB l)) := by
 unfold codec_number.f
 exact number_l0 l h hl l.length k 0 acc (by omega) hk ha
theorem wf_two {a b : Int} (ha : (Lit.int .i64 a).wf = true) (hb : (Lit.int .i64 b).wf = true) : ∀ n ∈ [a, b], (Lit.int .i64 n).wf = true := by
 intro n hn
 rcases List.mem_cons.1 hn with rfl | hn
 ·exact ha
 ·rcases List.mem_cons.1 hn with rfl | hn
  ·exact hb
  ·cases hn
theorem wf_one {a : Int} (ha : (Lit.int .i64 a).wf = true) : ∀ n ∈ [a], (Lit.int .i64 n).wf = true := by
 intro n hn
 rcases List.mem_cons.1 hn with rfl | hn
 ·exact ha
 ·cases hn
theorem number_two (a b : Int) (ha : (Lit.int .i64 a).wf = true) (hb : (Lit.int .i64 b).wf = true) (acc : ByteArray) (hacc : acc.size + 20 < 140737488355328) (k : Nat) (hk : 3 ≤ k) :
  codec_number.f k (bytesOf acc) [a, b] = some (bytesOf (acc ++ (numB a ++ numB b))) := by
 rw [codecnumber_some [a, b] (wf_two ha hb) (by simp) acc (by simp; omega) k (by simp; omega), numsB_two]
theorem number_one (a : Int) (ha : (Lit.int .i64 a).wf = true) (acc : ByteArray) (hacc : acc.size + 20 < 140737488355328) (k : Nat) (hk : 3 ≤ k) :
  codec_number.f k (bytesOf acc) [a] = some (bytesOf (acc ++ numB a)) := by
 rw [codecnumber_some [a] (wf_one ha) (by simp) acc (by simp; omega) k (by simp; omega), numsB_one]
theorem codectext_some (s : ByteArray) (hs : s.size ≤ 140737488351232) (acc : ByteArray) (ha : acc.size + 4106 < 140737488355328) : codec_text.f (bytesOf acc) s = some (bytesOf (acc ++ (textP s).1)) := by
 have := textP_size s
 unfold codec_text.f
 rw [bind_of (text_some s hs), if_pos (by rw [bytesOf_length]; omega), ← bytesOf_append]
theorem codecnumbers_some (l : List Int) (h : ∀ n ∈ l, (Lit.int .i64 n).wf = true) (acc : ByteArray) (ha : acc.size + 10000000 < 140737488355328) : codec_numbers.f (bytesOf acc) l = some (bytesOf (acc ++ (numbersP l).1)) := by
 have := numbersP_le l
 unfold codec_numbers.f
 rw [bind_of (numbers_some l h), if_pos (by rw [bytesOf_length]; omega), ← bytesOf_append]
def laidP (b : Bool) (y : ByteArray) : ByteArray × Int := if b = true then (y, 0) else (⟨#[]⟩, 2)
theorem laid_some (b : Bool) (y : ByteArray) : codec_laid.f b (bytesOf y) = some (laidP b y) := by
 unfold codec_laid.f laidP
 cases b with
 | true => rw [if_pos rfl, if_pos rfl, strOfNums_bytesOf]
 | false => rw [if_neg (by decide), if_neg (by decide)]
theorem foldO_laid {α : Type} (T : List Int → α → Option (List Int)) (B : α → ByteArray) (M : Nat) (l : List α) : ∀ acc : ByteArray, (∀ x ∈ l, (B x).size ≤ M) → (∀ x ∈ l, ∀ a : ByteArray, a.size + M < 140737488355328 → T (bytesOf a) x = some (bytesOf (a ++ B x))) → acc.size + M * l.length < 140737488355328 →
  foldO T l (bytesOf acc) = some (bytesOf (acc ++ catB B l)) := by
 induction l with
 | nil => intro acc _ _ _; rw [catB_nil, app_nil]; rfl
 | cons x l ih =>
  intro acc hM hT ha
  rw [List.length_cons, Nat.mul_succ] at ha
  have h1 := hM x List.mem_cons_self
  rw [foldO, bind_of (hT x List.mem_cons_self acc (by omega)), ih (acc ++ B x) (fun y hy => hM y (List.mem_cons_of_mem _ hy)) (fun y hy => hT y (List.mem_cons_of_mem _ hy)) (by rw [size_app]; omega), catB_cons, app_assoc]
theorem ten_l0 (l : List Int) (h : ∀ n ∈ l, (Lit.int .i64 n).wf = true) (hl : l.length ≤ 1048576) (d : Nat) : ∀ (k i : Nat) (acc : ByteArray), i + d = l.length → d + 20 ≤ k → acc.size ≤ 10 * i →
  surmiseref10_Numbers.l0 k l acc (i : Int) = some (acc ++ numsB (l.drop i)) := by
 induction d with
 | zero =>
  intro k i acc hi hk ha
  obtain ⟨k, rfl⟩ : ∃ m, k = m + 1 := ⟨k - 1, by omega⟩
  rw [surmiseref10_Numbers.l0, if_neg (by omega), List.drop_of_length_le (by omega), numsB, catB_nil, app_nil]
 | succ d ih =>
  intro k i acc hi hk ha
  obtain ⟨k, rfl⟩ : ∃ m, k = m + 1 := ⟨k - 1, by omega⟩
  have hlt : i < l.length := by omega
  have hb := i64_of (h _ (List.getElem_mem hlt))
  have hs := numB_size l[i]
  rw [surmiseref10_Numbers.l0, if_pos (by omega), if_pos (by omega), rd_at l i hlt, bind_of (refnumber_some _ hb.1 hb.2 k (by omega)), if_pos (by omega), wrap_up (by omega) (by omega), List.drop_eq_getElem_cons hlt]
  have := ih k (i + 1) (acc ++ numB l[i]) (by omega) (by omega) (by rw [size_app]; omega)
  rw [app_assoc] at this
  exact this
theorem tennumbers_some (l : List Int) (h : ∀ n ∈ l, (Lit.int .i64 n).wf = true) (hl : l.length ≤ 1048576) (k : Nat) (hk : l.length + 20 ≤ k) : surmiseref10_Numbers.f k l = some (numsB l) := by
 unfold surmiseref10_Numbers.f
 have := ten_l0 l h hl l.length k 0 ⟨#[]⟩ (by omega) hk (Nat.le_refl _)
 rw [List.drop_zero, nil_app] at this
 exact this
theorem tentwo (a b : Int) (ha : (Lit.int .i64 a).wf = true) (hb : (Lit.int .i64 b).wf = true) (k : Nat) (hk : 30 ≤ k) : surmiseref10_Numbers.f k [a, b] = some (numB a ++ numB b) := by
 rw [tennumbers_some [a, b] (wf_two ha hb) (by simp) k (by simp; omega), numsB_two]
theorem tenlist_some (l : List Int) (h : ∀ n ∈ l, (Lit.int .i64 n).wf = true) (hl : l.length ≤ 1048576) (k : Nat) (hk : l.length + 20 ≤ k) : surmiseref10_list.f k l = some (listB numB l) := by
 have h1 := numB_size (l.length : Int)
 have h2 := numsB_size l
 unfold surmiseref10_list.f
 rw [bind_of (refnumber_some _ (by omega) (by omega) k (by omega)), bind_of (tennumbers_some l h hl k hk), if_pos (by omega)]
 rfl
theorem tentext_some (s : ByteArray) (hs : s.size ≤ 140737488351232) (k : Nat) (hk : 20 ≤ k) : surmiseref10_Text.f k s = some (textR s) := by
 have h1 := numB_size (s.size : Int)
 unfold surmiseref10_Text.f
 rw [bind_of (refnumber_some _ (by omega) (by omega) k (by omega)), if_pos (by omega)]
 rfl
theorem lawlaid_true (b : Bool) (y : ByteArray) : surmiselaw10_laid.f (laidP b y).1 (laidP b y).2 b y = some true := by
 unfold surmiselaw10_laid.f laidP
 cases b with
 | true => rw [if_pos rfl, if_pos rfl, if_pos rfl]; rfl
 | false =>
  simp only [Bool.false_eq_true, if_false]
  rw [if_pos (by decide +kernel)]
  rfl
def Took (s : ByteArray) (a e : Int) (x : ByteArray) (r : Int × Int) : Prop := r.2 = 0 → e = 0 ∧ 0 ≤ a ∧ a < r.1 ∧ r.1 ≤ (s.size : Int) ∧ x = s.extract a.toNat r.1.toNat
theorem Took.next {s : ByteArray} {a e : Int} {x y : ByteArray} {r q : Int × Int} (h1 : Took s a e x r) (h2 : Took s r.1 r.2 y q) : Took s a e (x ++ y) q := by
 intro h
 obtain ⟨b1, b2, b3, b4, b5⟩ := h2 h
 obtain ⟨a1, a2, a3, a4, a5⟩ := h1 b1
 refine ⟨a1, a2, by omega, b4, ?_⟩
 rw [a5, b5]
 exact cut_join s a.toNat r.1.toNat q.1.toNat (by omega) (by omega) (by omega)
theorem wiB_iff (n a b : Int) : wiB n a b = true ↔ a ≤ n ∧ n ≤ b := by
 unfold wiB
 exact decide_eq_true_iff
def veY (x : S97) : ByteArray := numB x.f0 ++ numB x.f1
def itY (x : S93) : ByteArray := ((textR x.f0 ++ numB x.f1.f0) ++ numB x.f1.f1) ++ listB numB x.f1.f2
theorem laidP_same {b : Bool} {y z : ByteArray} (h : b = true → y = z) : laidP b y = laidP b z := by
 cases b with
 | true => rw [h rfl]
 | false => rfl
theorem catB_congr {α : Type} {B C : α → ByteArray} (l : List α) (h : ∀ x ∈ l, B x = C x) : catB B l = catB C l := by
 induction l with
 | nil => rfl
 | cons x l ih => rw [catB_cons, catB_cons, h x List.mem_cons_self, ih (fun y hy => h y (List.mem_cons_of_mem _ hy))]
theorem listP_err {α : Type} (T : α → ByteArray × Int) (l : List α) : ∀ acc, (listP T l acc).2 ≠ 0 → (listP T l acc).1 = ⟨#[]⟩ := by
 induction l with
 | nil => intro acc h; exact absurd rfl h
 | cons x l ih =>
  intro acc
  rw [listP]
  split
  ·exact ih _
  ·intro _; rfl
theorem textsP_le (l : List ByteArray) : (textsP l).1.size ≤ 10000000 := by
 by_cases h : (textsP l).2 = 0
 ·exact textsP_size l h
 ·unfold textsP at h ⊢
  split at h
  ·rw [if_pos ‹_›]; exact Nat.zero_le _
  ·rw [if_neg ‹_›, listP_err _ _ _ h]; exact Nat.zero_le _
theorem textsP_short (l : List ByteArray) (hl : l.length ≤ 256) (h : ∀ x ∈ l, x.size ≤ 4096) : textsP l = (listB textR l, 0) := by
 have h1 : ∀ x ∈ l, (textP x).2 = 0 := fun x hx => by rw [textP_short x (h x hx)]
 unfold textsP
 rw [if_neg (by omega), listP_all _ _ _ h1]
 unfold listB
 have : catP textP l = catB textR l := by
  clear hl
  induction l with
  | nil => rfl
  | cons x l ih => rw [catP, textP_short x (h x List.mem_cons_self), ih (fun y hy => h y (List.mem_cons_of_mem _ hy)) (fun y hy => h1 y (List.mem_cons_of_mem _ hy))]; rfl
 rw [this]
theorem stream_le {s : ByteArray} (h : streamB s = true) : s.size ≤ 32 := by
 unfold streamB at h
 rw [Bool.and_eq_true, decide_eq_true_eq] at h
 exact h.1
theorem pattern_le {s : ByteArray} (h : patternB s = true) : s.size ≤ 32 := by
 unfold patternB at h
 rw [Bool.and_eq_true, decide_eq_true_eq] at h
 exact h.1
theorem wi_wf {n a b : Int} (h : wiB n a b = true) (ha : -9223372036854775808 ≤ a) (hb : b ≤ 9223372036854775807) : (Lit.int .i64 n).wf = true := by
 have := (wiB_iff _ _ _).1 h
 exact wf_i64 n (by omega) (by omega)
theorem val_wf {l : List Int} {m : Int} (h : valB l m = true) : (∀ n ∈ l, (Lit.int .i64 n).wf = true) ∧ (l.length : Int) ≤ m := by
 unfold valB at h
 rw [Bool.and_eq_true, decide_eq_true_eq, List.all_eq_true] at h
 exact ⟨fun n hn => wi_wf (h.1 n hn) (by decide) (by decide), h.2⟩
def intsOK (l : List Int) : Prop := l.length ≤ 1048576 ∧ ∀ n ∈ l, (Lit.int .i64 n).wf = true
theorem val_ok {l : List Int} {m : Int} (h : valB l m = true) (hm : m ≤ 256) : intsOK l ∧ l.length ≤ 256 := by
 have := val_wf h
 exact ⟨⟨by omega, this.1⟩, by omega⟩
theorem chain_all {α : Type} {P : α → Bool} {R : α → α → Bool} (l : List α) : ∀ o, chainB P R o l = true → ∀ x ∈ l, P x = true := by
 induction l with
 | nil => intro o _ x hx; cases hx
 | cons y l ih =>
  intro o h x hx
  have h2 : P y = true ∧ chainB P R (some y) l = true := by
   cases o with
   | none => rw [chainB, Bool.and_eq_true] at h; exact h
   | some p => rw [chainB, Bool.and_eq_true, Bool.and_eq_true] at h; exact ⟨h.1, h.2.2⟩
  rcases List.mem_cons.1 hx with rfl | hx
  ·exact h2.1
  ·exact ih _ h2.2 x hx
def itOK (x : S93) : Prop := x.f0.size ≤ 140737488351232 ∧ (Lit.int .i64 x.f1.f0).wf = true ∧ (Lit.int .i64 x.f1.f1).wf = true ∧ intsOK x.f1.f2
theorem it_wf {x : S93} (h : itB x = true) : itOK x ∧ x.f0.size ≤ 32 ∧ x.f1.f2.length ≤ 256 := by
 unfold itB staB at h
 rw [Bool.and_eq_true, Bool.and_eq_true, Bool.and_eq_true] at h
 have h1 := stream_le h.1
 have h2 := val_ok h.2.2.1 (by decide)
 exact ⟨⟨by omega, wi_wf h.2.1 (by decide) (by decide), wi_wf h.2.2.2 (by decide) (by decide), h2.1⟩, h1, h2.2⟩
theorem items_wf {l : List S93} (h : itemsB l = true) : l.length ≤ 64 ∧ ∀ x ∈ l, itOK x ∧ x.f0.size ≤ 32 ∧ x.f1.f2.length ≤ 256 := by
 unfold itemsB at h
 rw [Bool.and_eq_true, decide_eq_true_eq] at h
 exact ⟨by omega, fun x hx => it_wf (chain_all l none h.1 x hx)⟩
def veOK (x : S97) : Prop := (Lit.int .i64 x.f0).wf = true ∧ (Lit.int .i64 x.f1).wf = true
theorem fil_wf {l : List ByteArray} (h : filB l = true) : l.length ≤ 8 ∧ ∀ x ∈ l, x.size ≤ 32 := by
 unfold filB at h
 rw [Bool.and_eq_true, decide_eq_true_eq, List.all_eq_true] at h
 exact ⟨h.1, fun x hx => pattern_le (h.2 x hx)⟩
def itZ (x : S93) : ByteArray := (textP x.f0).1 ++ ((numB x.f1.f0 ++ numB x.f1.f1) ++ (numbersP x.f1.f2).1)
theorem itZ_size (x : S93) : (itZ x).size ≤ 10004126 := by
 have h1 := textP_size x.f0
 have h2 := numB_size x.f1.f0
 have h3 := numB_size x.f1.f1
 have h4 := numbersP_le x.f1.f2
 unfold itZ
 rw [size_app, size_app, size_app]
 omega
theorem putitem_some (x : S93) (h : itOK x) (a : ByteArray) (ha : a.size + 10008126 < 140737488355328) (k : Nat) (hk : 3 ≤ k) : codec_PutItems_1.f k (bytesOf a) x.f0 x.f1.f0 x.f1.f1 x.f1.f2 = some (bytesOf (a ++ itZ x)) := by
 have h1 := textP_size x.f0
 have h2 := numB_size x.f1.f0
 have h3 := numB_size x.f1.f1
 unfold codec_PutItems_1.f
 rw [bind_of (codectext_some x.f0 h.1 a (by omega)), bind_of (number_two x.f1.f0 x.f1.f1 h.2.1 h.2.2.1 _ (by rw [size_app]; omega) k hk), bind_of (codecnumbers_some x.f1.f2 h.2.2.2.2 _ (by rw [size_app, size_app, size_app]; omega)), app_assoc, app_assoc]
 rfl
theorem putlist_items (l : List S93) (hl : l.length ≤ 1048576) (h : ∀ x ∈ l, itOK x) (a : ByteArray) (ha : a.size ≤ 100000000) (k : Nat) (hk : 3000000 ≤ k) : api_Item__by_codec_PutItems_1.f k (bytesOf a) l = some (bytesOf (a ++ listB itZ l)) := by
 have h1 := numB_size (l.length : Int)
 unfold api_Item__by_codec_PutItems_1.f
 rw [bind_of (number_one (l.length : Int) (wf_i64 _ (by omega) (by omega)) a (by omega) k (by omega)), foldO_laid _ itZ 10008126 l _ (fun x _ => Nat.le_trans (itZ_size x) (by decide)) (fun x hx b hb => putitem_some x (h x hx) b hb k (by omega)) (by rw [size_app]; omega), app_assoc]
 rfl
theorem itZ_right (l : List S93) (h : itemsB l = true) : listB itZ l = listB itY l := by
 unfold listB
 rw [catB_congr l (fun x hx => ?_)]
 obtain ⟨_, h1, h2⟩ := (items_wf h).2 x hx
 unfold itZ itY
 rw [numbersP_short x.f1.f2 h2, textP_short x.f0 (by omega), app_assoc, app_assoc, app_assoc]
theorem itsz {l : List S93} (hs : ∀ x ∈ l, x.f0.size ≤ 1048576) (h : ∀ x ∈ l, itOK x) : ∀ x ∈ l, x.f1.f2.length + 300 ≤ 2097200 ∧ x.f1.f2.length < 9223372036854775807 ∧ x.f0.size ≤ 140737488351232 ∧ 2 * x.f0.size + 2 ≤ 2097200 := fun x hx => by
 have h1 := (h x hx).2.2.2.1
 have h2 := hs x hx
 omega
theorem putitems_some (l : List S93) (hl : l.length ≤ 524288) (hs : ∀ x ∈ l, x.f0.size ≤ 1048576) (h : ∀ x ∈ l, itOK x) (k : Nat) (hk : 3000000 ≤ k) : codec_PutItems.f k l = some (laidP (itemsB l) (listB itY l)) := by
 have e1 := putlist_items l (by omega) h ⟨#[]⟩ (by decide) k hk
 rw [bytesOf_nil, nil_app] at e1
 unfold codec_PutItems.f
 rw [bind_of (items_some l (by omega) 2097200 (itsz hs h) k (by omega)), bind_of e1, bind_of (laid_some _ _)]
 exact congrArg some (laidP_same fun hb => itZ_right l hb)
theorem veY_size (x : S97) : (veY x).size ≤ 20 := by
 have h2 := numB_size x.f0
 have h3 := numB_size x.f1
 unfold veY
 rw [size_app]
 omega
theorem putverdicts_l0 (l : List S97) (hl : l.length ≤ 1048576) (h : ∀ x ∈ l, veOK x) (d : Nat) : ∀ (k i : Nat) (acc : ByteArray), i + d = l.length → d + 10 ≤ k → acc.size ≤ 100000000 + 20 * i →
  api_Verdict__by_codec_PutVerdicts_1.l0 k (bytesOf acc) l (l.length : Int) (i : Int) = some (bytesOf (acc ++ catB veY (l.drop i))) := by
 induction d with
 | zero =>
  intro k i acc hi hk ha
  obtain ⟨k, rfl⟩ : ∃ m, k = m + 1 := ⟨k - 1, by omega⟩
  rw [api_Verdict__by_codec_PutVerdicts_1.l0, if_neg (by omega), List.drop_of_length_le (by omega), catB_nil, app_nil]
 | succ d ih =>
  intro k i acc hi hk ha
  obtain ⟨k, rfl⟩ : ∃ m, k = m + 1 := ⟨k - 1, by omega⟩
  have hlt : i < l.length := by omega
  have hx := h _ (List.getElem_mem hlt)
  have hz := veY_size l[i]
  have e : codec_PutVerdicts_1.f k (bytesOf acc) l[i].f0 l[i].f1 = some (bytesOf (acc ++ veY l[i])) := by
   unfold codec_PutVerdicts_1.f
   rw [bind_of (number_two _ _ hx.1 hx.2 acc (by omega) k (by omega))]
   rfl
  rw [api_Verdict__by_codec_PutVerdicts_1.l0, if_pos (by omega), if_pos (by omega), if_pos (by omega), rdV_at l i hlt, bind_of e, wrap_up (by omega) (by omega), List.drop_eq_getElem_cons hlt, catB_cons, ← app_assoc]
  exact ih k (i + 1) (acc ++ veY l[i]) (by omega) (by omega) (by rw [size_app]; omega)
theorem putverdicts_some (l : List S97) (hl : l.length ≤ 1048576) (h : ∀ x ∈ l, veOK x) (k : Nat) (hk : 3000000 ≤ k) : codec_PutVerdicts.f k l = some (laidP (verdictsB l) (listB veY l)) := by
 have h1 := numB_size (l.length : Int)
 have e1 := number_one (l.length : Int) (wf_i64 _ (by omega) (by omega)) ⟨#[]⟩ (by decide) k (by omega)
 rw [bytesOf_nil, nil_app] at e1
 have e2 := putverdicts_l0 l hl h l.length k 0 (numB (l.length : Int)) (by omega) (by omega) (by omega)
 rw [List.drop_zero] at e2
 have e3 : api_Verdict__by_codec_PutVerdicts_1.f k ([] : List Int) l = some (bytesOf (listB veY l)) := by
  unfold api_Verdict__by_codec_PutVerdicts_1.f
  rw [bind_of e1]
  exact e2
 unfold codec_PutVerdicts.f
 rw [bind_of (verdicts_some l (by omega) k (by omega)), bind_of e3, bind_of (laid_some _ _)]
theorem putfilter_some (l : List ByteArray) (hl : l.length ≤ 1048576) (h : ∀ x ∈ l, x.size ≤ 140737488351232) (k : Nat) (hk : 3000000 ≤ k) : codec_PutFilter.f k l = some (laidP (filB l) (listB textR l)) := by
 obtain ⟨r, e1, e2⟩ := check_some l (by omega) k (by omega)
 have h1 := textsP_le l
 unfold codec_PutFilter.f
 rw [bind_of e1, bind_of (texts_some l h), if_pos (by omega), e2, laid_some]
 refine congrArg some (laidP_same fun hb => ?_)
 obtain ⟨g1, g2⟩ := fil_wf hb
 rw [textsP_short l (by omega) (fun x hx => by have := g2 x hx; omega)]
theorem layitems_l0 (l : List S93) (hl : l.length ≤ 1048576) (h : ∀ x ∈ l, itOK x) (hs : ∀ x ∈ l, x.f0.size ≤ 1048576) (M : Nat) (hM : 1048700 ≤ M) (d : Nat) : ∀ (k i : Nat) (acc : ByteArray), i + d = l.length → d + M ≤ k → acc.size + 20000000 * d ≤ 4611686018427387903 →
  surmiseref10_LayItems.l0 k l acc (i : Int) = some (acc ++ catB itY (l.drop i)) := by
 induction d with
 | zero =>
  intro k i acc hi hk ha
  obtain ⟨k, rfl⟩ : ∃ m, k = m + 1 := ⟨k - 1, by omega⟩
  rw [surmiseref10_LayItems.l0, if_neg (by omega), List.drop_of_length_le (by omega), catB_nil, app_nil]
 | succ d ih =>
  intro k i acc hi hk ha
  obtain ⟨k, rfl⟩ : ∃ m, k = m + 1 := ⟨k - 1, by omega⟩
  have hlt : i < l.length := by omega
  have hx := h _ (List.getElem_mem hlt)
  have hz := hs _ (List.getElem_mem hlt)
  have s0 := textR_size l[i].f0
  have s1 := numB_size l[i].f1.f0
  have s2 := numB_size l[i].f1.f1
  have s3 := listInts_size l[i].f1.f2
  have s4 := hx.2.2.2.1
  rw [surmiseref10_LayItems.l0, if_pos (by omega), if_pos (by omega), rdI_at l i hlt, bind_of (tentext_some _ hx.1 k (by omega)), if_pos (by omega), bind_of (tentwo _ _ hx.2.1 hx.2.2.1 k (by omega)), if_pos (by simp only [size_app]; omega), bind_of (tenlist_some _ hx.2.2.2.2 hx.2.2.2.1 k (by omega)), if_pos (by simp only [size_app]; omega), wrap_up (by omega) (by omega), List.drop_eq_getElem_cons hlt, catB_cons]
  have := ih k (i + 1) (((acc ++ textR l[i].f0) ++ (numB l[i].f1.f0 ++ numB l[i].f1.f1)) ++ listB numB l[i].f1.f2) (by omega) (by omega) (by simp only [size_app]; omega)
  refine Eq.trans this (congrArg some ?_)
  simp only [itY, app_assoc]
theorem layitems_some (l : List S93) (hl : l.length ≤ 1048576) (h : ∀ x ∈ l, itOK x) (hs : ∀ x ∈ l, x.f0.size ≤ 1048576) (k : Nat) (hk : 3000000 ≤ k) : surmiseref10_LayItems.f k l = some (listB itY l) := by
 have h1 := numB_size (l.length : Int)
 unfold surmiseref10_LayItems.f
 rw [bind_of (refnumber_some _ (by omega) (by omega) k (by omega))]
 have := layitems_l0 l hl h hs 1048700 (Nat.le_refl _) l.length k 0 (numB (l.length : Int)) (by omega) (by omega) (by omega)
 rw [List.drop_zero] at this
 exact this
theorem layverdicts_l0 (l : List S97) (hl : l.length ≤ 1048576) (h : ∀ x ∈ l, veOK x) (d : Nat) : ∀ (k i : Nat) (acc : ByteArray), i + d = l.length → d + 100 ≤ k → acc.size + 20 * d ≤ 4611686018427387903 →
  surmiseref10_LayVerdicts.l0 k l acc (i : Int) = some (acc ++ catB veY (l.drop i)) := by
 induction d with
 | zero =>
  intro k i acc hi hk ha
  obtain ⟨k, rfl⟩ : ∃ m, k = m + 1 := ⟨k - 1, by omega⟩
  rw [surmiseref10_LayVerdicts.l0, if_neg (by omega), List.drop_of_length_le (by omega), catB_nil, app_nil]
 | succ d ih =>
  intro k i acc hi hk ha
  obtain ⟨k, rfl⟩ : ∃ m, k = m + 1 := ⟨k - 1, by omega⟩
  have hlt : i < l.length := by omega
  have hx := h _ (List.getElem_mem hlt)
  have s1 := numB_size l[i].f0
  have s2 := numB_size l[i].f1
  rw [surmiseref10_LayVerdicts.l0, if_pos (by omega), if_pos (by omega), rdV_at l i hlt, bind_of (tentwo _ _ hx.1 hx.2 k (by omega)), if_pos (by simp only [size_app]; omega), wrap_up (by omega) (by omega), List.drop_eq_getElem_cons hlt, catB_cons]
  have := ih k (i + 1) (acc ++ (numB l[i].f0 ++ numB l[i].f1)) (by omega) (by omega) (by simp only [size_app]; omega)
  refine Eq.trans this (congrArg some ?_)
  simp only [veY, app_assoc]
theorem layverdicts_some (l : List S97) (hl : l.length ≤ 1048576) (h : ∀ x ∈ l, veOK x) (k : Nat) (hk : 3000000 ≤ k) : surmiseref10_LayVerdicts.f k l = some (listB veY l) := by
 have h1 := numB_size (l.length : Int)
 unfold surmiseref10_LayVerdicts.f
 rw [bind_of (refnumber_some _ (by omega) (by omega) k (by omega))]
 have := layverdicts_l0 l hl h l.length k 0 (numB (l.length : Int)) (by omega) (by omega) (by omega)
 rw [List.drop_zero] at this
 exact this
theorem layfilter_l0 (l : List ByteArray) (hl : l.length ≤ 1048576) (h : ∀ x ∈ l, x.size ≤ 1048576) (d : Nat) : ∀ (k i : Nat) (acc : ByteArray), i + d = l.length → d + 100 ≤ k → acc.size + 1048600 * d ≤ 4611686018427387903 →
  surmiseref10_LayFilter.l0 k l acc (i : Int) = some (acc ++ catB textR (l.drop i)) := by
 induction d with
 | zero =>
  intro k i acc hi hk ha
  obtain ⟨k, rfl⟩ : ∃ m, k = m + 1 := ⟨k - 1, by omega⟩
  rw [surmiseref10_LayFilter.l0, if_neg (by omega), List.drop_of_length_le (by omega), catB_nil, app_nil]
 | succ d ih =>
  intro k i acc hi hk ha
  obtain ⟨k, rfl⟩ : ∃ m, k = m + 1 := ⟨k - 1, by omega⟩
  have hlt : i < l.length := by omega
  have hx := h _ (List.getElem_mem hlt)
  have s1 := textR_size l[i]
  rw [surmiseref10_LayFilter.l0, if_pos (by omega), if_pos (by omega), rdOf_at l i hlt, bind_of (tentext_some _ (by omega) k (by omega)), if_pos (by omega), wrap_up (by omega) (by omega), List.drop_eq_getElem_cons hlt, catB_cons]
  have := ih k (i + 1) (acc ++ textR l[i]) (by omega) (by omega) (by simp only [size_app]; omega)
  refine Eq.trans this (congrArg some ?_)
  simp only [app_assoc]
theorem layfilter_some (l : List ByteArray) (hl : l.length ≤ 1048576) (h : ∀ x ∈ l, x.size ≤ 1048576) (k : Nat) (hk : 3000000 ≤ k) : surmiseref10_LayFilter.f k l = some (listB textR l) := by
 have h1 := numB_size (l.length : Int)
 unfold surmiseref10_LayFilter.f
 rw [bind_of (refnumber_some _ (by omega) (by omega) k (by omega))]
 have := layfilter_l0 l hl h l.length k 0 (numB (l.length : Int)) (by omega) (by omega) (by omega)
 rw [List.drop_zero] at this
 exact this
theorem refright_some (l : List ByteArray) (hl : l.length < 9223372036854775807) (k : Nat) (hk : l.length + 301 ≤ k) : surmiseref09_Right.f k l = some (filB l) := by
 obtain ⟨r, e1, e2⟩ := refcheck_some l hl k hk
 unfold surmiseref09_Right.f
 rw [bind_of e1, e2]
theorem sum_len {α : Type} (f : α → Nat) (m : Nat) (l : List α) (h : ∀ x, m ≤ f x) : m * l.length ≤ (l.map f).sum := by
 induction l with
 | nil => exact Nat.zero_le _
 | cons x l ih =>
  rw [List.length_cons, Nat.mul_succ, List.map_cons, List.sum_cons]
  have := h x
  omega
theorem sum_mem {α : Type} (f : α → Nat) (l : List α) : ∀ x ∈ l, f x ≤ (l.map f).sum := by
 induction l with
 | nil => intro x hx; cases hx
 | cons y l ih =>
  intro x hx
  rw [List.map_cons, List.sum_cons]
  rcases List.mem_cons.1 hx with rfl | hx
  ·omega
  ·have := ih x hx
   omega
theorem ints_le (l : List Int) : l.length ≤ (l.map fun _ => 1).sum := by
 have := sum_len (fun _ : Int => 1) 1 l (fun _ => Nat.le_refl _)
 omega
def itM (x : S93) : Nat := (x.f0.size + 1) + (1 + (1 + ((x.f1.f2.map fun _ => 1).sum + 1)))
theorem it_bound {l : List S93} {B : Nat} (h : (l.map itM).sum ≤ B) (hB : B ≤ 1048576) (hw : ∀ x ∈ l, x.f0.size ≤ 140737488351232 ∧ (Lit.int .i64 x.f1.f0).wf = true ∧ (Lit.int .i64 x.f1.f1).wf = true ∧ x.f1.f2.length * 8 ≤ 140737488351232 ∧ x.f1.f2.length ≤ 9223372036854775807 ∧ ∀ y ∈ x.f1.f2, (Lit.int .i64 y).wf = true) :
  l.length ≤ 524288 ∧ (∀ x ∈ l, itOK x) ∧ ∀ x ∈ l, x.f0.size ≤ 1048576 := by
 have h1 := sum_len itM 2 l (fun x => by unfold itM; omega)
 refine ⟨by omega, fun x hx => ?_, fun x hx => ?_⟩
 ·obtain ⟨w1, w2, w3, w4, w5, w6⟩ := hw x hx
  have h2 : (x.f0.size + 1) + (1 + (1 + ((x.f1.f2.map fun _ => 1).sum + 1))) ≤ (l.map itM).sum := sum_mem itM l x hx
  have h3 := ints_le x.f1.f2
  exact ⟨by omega, w2, w3, by omega, w6⟩
 ·have h2 : (x.f0.size + 1) + (1 + (1 + ((x.f1.f2.map fun _ => 1).sum + 1))) ≤ (l.map itM).sum := sum_mem itM l x hx
  omega
theorem te_bound {l : List ByteArray} {B : Nat} (h : (l.map fun x => x.size + 1).sum ≤ B) (hB : B ≤ 1048576) : l.length ≤ 1048576 ∧ ∀ x ∈ l, x.size ≤ 1048576 := by
 have h1 := sum_len (fun x : ByteArray => x.size + 1) 1 l (fun x => by omega)
 refine ⟨by omega, fun x hx => ?_⟩
 have h2 : x.size + 1 ≤ (l.map fun x => x.size + 1).sum := sum_mem (fun x : ByteArray => x.size + 1) l x hx
 omega
theorem awake10_true (k : Nat) (hk : 60 ≤ k) : surmiselaw10_awake.f k = some true := by
 have h : surmiselaw10_awake.f 60 = some true := by decide +kernel
 exact at_rounds (fun k => surmiselaw10_awake.mono k) hk h
end Go.Proofs.Ytbfehjncllkogaa.Q
namespace Go.Proofs.Ytbfehjncllkogaa.Pure
open Go.RowKit Go.Proofs.Ytbfehjncllkogaa.Q Go.Proofs.YtbfehjncllkogaaW.PrintWords Go.Proofs.YtbfehjncllkogaaW.PrintLast
theorem CodecListsUpto (l : List S93) (v : List S97) (p : List ByteArray)
  (h1 : l.length * 56 ≤ 140737488351232 ∧ l.length ≤ 9223372036854775807 ∧ ∀ x ∈ l, x.f0.size ≤ 140737488351232 ∧ (Lit.int .i64 x.f1.f0).wf = true ∧ (Lit.int .i64 x.f1.f1).wf = true ∧ x.f1.f2.length * 8 ≤ 140737488351232 ∧ x.f1.f2.length ≤ 9223372036854775807 ∧ ∀ y ∈ x.f1.f2, (Lit.int .i64 y).wf = true)
  (h2 : v.length * 16 ≤ 140737488351232 ∧ v.length ≤ 9223372036854775807 ∧ ∀ x ∈ v, (Lit.int .i64 x.f0).wf = true ∧ (Lit.int .i64 x.f1).wf = true)
  (h3 : p.length * 16 ≤ 140737488351232 ∧ p.length ≤ 9223372036854775807 ∧ ∀ x ∈ p, x.size ≤ 140737488351232)
  (hB0 : (l.map fun x => (x.f0.size + 1) + (1 + (1 + ((x.f1.f2.map fun _ => 1).sum + 1)))).sum + 1 ≤ 1048576) (hB1 : (v.map fun _ => 1 + 1).sum + 1 ≤ 1048576) (hB2 : (p.map fun x => x.size + 1).sum + 1 ≤ 1048576) :
  ∃ k, surmiselaw10_CodecLists.f k l v p = some true := by
 obtain ⟨k, hk⟩ : ∃ k, k = 3000000 := ⟨_, rfl⟩
 have hi := it_bound (l := l) (B := 1048576) (by
  have : (l.map itM).sum ≤ 1048576 := by
   change (l.map fun x => (x.f0.size + 1) + (1 + (1 + ((x.f1.f2.map fun _ => 1).sum + 1)))).sum ≤ 1048576
   omega
  exact this) (Nat.le_refl _) h1.2.2
 have hv : v.length ≤ 1048576 := by
  have := sum_len (fun _ : S97 => 1 + 1) 1 v (fun _ => by omega)
  omega
 have hp := te_bound (l := p) (B := 1048576) (by omega) (Nat.le_refl _)
 have hi1 := hi.1
 have hp1 := hp.1
 refine ⟨k + 1, ?_⟩
 unfold surmiselaw10_CodecLists.f
 rw [bind_of (putitems_some l hi.1 hi.2.2 hi.2.1 (k + 1) (by omega)), bind_of (putverdicts_some v hv h2.2.2 (k + 1) (by omega)), bind_of (putfilter_some p hp.1 (fun x hx => by have := hp.2 x hx; omega) (k + 1) (by omega))]
 have hbad : ∀ a3 a4 a5 a6, surmiselaw10_CodecLists.j0 (k + 1) l v p (laidP (itemsB l) (listB itY l)).1 (laidP (itemsB l) (listB itY l)).2 a3 a4 a5 a6 true = some true := by
  intro a3 a4 a5 a6
  rw [surmiselaw10_CodecLists.j0, if_pos rfl, bind_of (awake10_true k (by omega)), if_pos rfl]
  cases hb : itemsB l with
  | true =>
   have := (items_wf hb).1
   show (if (0 : Int) = 2 then some true else some (decide ((l.length : Int) ≤ 64))) = some true
   rw [if_neg (by decide), decide_eq_true (by omega)]
  | false => exact if_pos rfl
 have hgood : surmiselaw10_CodecLists.j0 (k + 1) l v p (laidP (itemsB l) (listB itY l)).1 (laidP (itemsB l) (listB itY l)).2 (laidP (verdictsB v) (listB veY v)).1 (laidP (verdictsB v) (listB veY v)).2 (laidP (filB p) (listB textR p)).1 (laidP (filB p) (listB textR p)).2 false = some true := by
  rw [surmiselaw10_CodecLists.j0, if_neg (by decide), bind_of (awake10_true k (by omega)), if_pos rfl, bind_of (refitems_some l (by omega) 2097200 (itsz hi.2.2 hi.2.1) k (by omega)), bind_of (layitems_some l (by omega) hi.2.1 hi.2.2 k (by omega)), bind_of (lawlaid_true _ _), if_pos rfl,
   bind_of (refverdicts_some v (by omega) k (by omega)), bind_of (layverdicts_some v hv h2.2.2 k (by omega)), bind_of (lawlaid_true _ _), if_pos rfl,
   bind_of (refright_some p (by omega) k (by omega)), bind_of (layfilter_some p hp.1 hp.2 k (by omega)), bind_of (lawlaid_true _ _)]
 split
 ·exact hbad _ _ _ _
 ·split
  ·exact hbad _ _ _ _
  ·cases hd : decide ((p.length : Int) > 20) with
   | true => exact hbad _ _ _ _
   | false => exact hgood
end Go.Proofs.Ytbfehjncllkogaa.Pure
namespace Go.Proofs.Ytbfehjncllkogaa.Q
open Go.RowKit Go.Proofs.YtbfehjncllkogaaW.PrintWords Go.Proofs.YtbfehjncllkogaaW.PrintLast Go.Proofs.YtbfehjncllkogaaW.PrintMore
section
variable {H : Type} (enc : TypeId × Value → H) (P : Program) (W : World)
def Opens {α : Type} (t : TypeId) (d : Kd α) (G : α → Prop) : Prop :=
 P.cellsOf t = d.sz ∧ ∀ (fuel : Nat) (cs : List Value) (x : DataW H × List MemPlace), DataW.trod enc P W 0 (fun _ => true) true fuel t cs = some x → (∀ n ∈ x.1.weights P t, n ≤ reachBytes) → ∃ y, d.K W y cs ∧ G y
def OpensSeq {α : Type} (ts : List TypeId) (d : Kd α) (G : α → Prop) : Prop :=
 (ts.map P.cellsOf).sum = d.sz ∧ ∀ (fuel : Nat) (cs : List Value) (xs : List (DataW H × List MemPlace)), cs.length = (ts.map P.cellsOf).sum → xs.length = ts.length →
  (∀ i t, ts[i]? = some t → DataW.trod enc P W 0 (fun _ => true) true fuel t ((cs.drop ((ts.take i).map P.cellsOf).sum).take (P.cellsOf t)) = xs[i]?) →
  (∀ n ∈ DataW.weightsEach P ts (xs.map (·.1)), n ≤ reachBytes) → ∃ y, d.K W y cs ∧ G y
variable {enc P W}
theorem Opens.int {t : TypeId} {k : IntKind} (ht : P.underlying t = some (.int k)) (hc : P.cellsOf t = 1) : Opens enc P W t (Kd.int k) (fun n => (Lit.int k n).wf = true) := by
 refine ⟨hc, fun fuel cs x h _ => ?_⟩
 obtain ⟨n, rfl, _, hw⟩ := DataW.trod_int ht h
 exact ⟨n, rfl, hw⟩
theorem Opens.bool {t : TypeId} (ht : P.underlying t = some .bool) (hc : P.cellsOf t = 1) : Opens enc P W t Kd.bool (fun _ => True) := by
 refine ⟨hc, fun fuel cs x h _ => ?_⟩
 cases fuel with
 | zero => simp [DataW.trod] at h
 | succ n =>
  unfold DataW.trod at h
  rw [ht] at h
  split at h <;> first | exact ⟨_, rfl, trivial⟩ | simp_all
theorem Opens.string {t : TypeId} (ht : P.underlying t = some .string) (hc : P.cellsOf t = 1) : Opens enc P W t Kd.string (fun s => s.size ≤ 140737488351232) := by
 refine ⟨hc, fun fuel cs x h hw => ?_⟩
 obtain ⟨s, rfl, rfl, _⟩ := DataW.trod_string ht h
 refine ⟨s, rfl, ?_⟩
 have := hw s.data.toList.length (by simp [DataW.weights])
 simpa [reachBytes, Array.length_toList] using this
theorem weights_all {e : TypeId} {ds : List (DataW H)} {d : DataW H} (h : d ∈ ds) : ∀ n ∈ d.weights P e, n ∈ DataW.weightsAll P e ds := by
 induction ds with
 | nil => cases h
 | cons d' ds ih =>
  intro n hn
  rw [DataW.weightsAll, List.mem_append]
  rcases List.mem_cons.1 h with rfl | h
  ·exact .inl hn
  ·exact .inr (ih h n hn)
open Classical in
theorem choose_list {α : Type} (z : α) (R : Nat → α → Prop) (n : Nat) (h : ∀ i, i < n → ∃ y, R i y) : ∃ l : List α, l.length = n ∧ ∀ i (hi : i < n) (hl : i < l.length), R i l[i] := by
 refine ⟨(List.range n).map fun i => if h' : ∃ y, R i y then Classical.choose h' else z, by simp, fun i hi hl => ?_⟩
 have he := h i hi
 simp only [List.getElem_map, List.getElem_range, dif_pos he]
 exact Classical.choose_spec he
theorem Opens.slice {α : Type} (z : α) {t e : TypeId} {d : Kd α} {G : α → Prop} (bytes : Nat) (ht : P.underlying t = some (.slice e)) (hc : P.cellsOf t = 1) (hb : P.bytesOf e = bytes) (h : Opens enc P W e d G) :
  Opens enc P W t (Kd.slice e d) (fun xs => xs.length * bytes ≤ 140737488351232 ∧ xs.length ≤ 9223372036854775807 ∧ ∀ x ∈ xs, G x) := by
 refine ⟨hc, fun fuel cs x hx hw => ?_⟩
 rcases Go.Deep.open_slice ht hx with ⟨rfl, rfl⟩ | ⟨a, len, cap, m, n, D, Pl, rfl, _, hlc, hcm, hm, rfl, hel⟩
 ·exact ⟨[], ⟨none, 0, rfl, Nat.le_refl _, Kd.C_nil d W⟩, by simp, by simp, fun x hx => by cases hx⟩
 ·have hlm : len ≤ m := by rw [hm]; split <;> omega
  have hwt : DataW.weights P t (.slice ((List.range len).map D) ((List.range (m - len)).map fun j => D (len + j))) =
    (((List.range len).map D).length + ((List.range (m - len)).map fun j => D (len + j)).length) * P.bytesOf e :: (DataW.weightsAll P e ((List.range len).map D) ++ DataW.weightsAll P e ((List.range (m - len)).map fun j => D (len + j))) := by
   rw [DataW.weights]
   simp only [ht]
  have hel' : ∀ i, i < len → ∃ y, (∃ cs', W.cells? 0 (a.add (i * P.cellsOf e)) (P.cellsOf e) = some cs' ∧ d.K W y cs') ∧ G y := by
   intro i hi
   obtain ⟨cs', h1, h2⟩ := hel i (by omega)
   obtain ⟨y, hy, hg⟩ := h.2 n cs' _ h2 (fun n hn => hw n (by
    rw [hwt]
    exact List.mem_cons_of_mem _ (List.mem_append_left _ (weights_all (List.mem_map.2 ⟨i, List.mem_range.2 hi, rfl⟩) n hn))))
   exact ⟨y, ⟨cs', h1, hy⟩, hg⟩
  obtain ⟨l, hll, hl⟩ := choose_list z _ len hel'
  have hb1 := hw _ (by rw [hwt]; exact List.mem_cons_self)
  have hle : len * bytes ≤ 140737488351232 := by
   simp only [List.length_map, List.length_range, hb, reachBytes] at hb1
   exact Nat.le_trans (Nat.mul_le_mul_right _ (by omega)) hb1
  have hmx : len ≤ 9223372036854775807 := by
   simp only [maxLen] at hcm
   omega
  refine ⟨l, ⟨some a, cap, by rw [hll], by omega, by rw [hll], by omega, fun _ => ⟨a, rfl, fun j p hj => ?_⟩⟩, by rw [hll]; exact hle, by omega, fun x hx => ?_⟩
  ·obtain ⟨hjl, rfl⟩ := List.getElem?_eq_some_iff.1 hj
   obtain ⟨⟨cs', h1, hK⟩, _⟩ := hl j (by omega) hjl
   obtain ⟨_, hcl, hcell⟩ := World.cells?_some h1
   refine ⟨cs', by rw [hcl, h.1], hK, fun i u hu => ?_⟩
   have hi : i < P.cellsOf e := by
    have := (List.getElem?_eq_some_iff.1 hu).1
    omega
   have := hcell i hi
   rw [hu, add_add, h.1] at this
   exact this
  ·obtain ⟨j, hj, rfl⟩ := List.getElem_of_mem hx
   exact (hl j (by omega) hj).2
theorem OpensSeq.one {α : Type} {t : TypeId} {d : Kd α} {G : α → Prop} (h : Opens enc P W t d G) : OpensSeq enc P W [t] d G := by
 refine ⟨by simp [h.1], fun fuel cs xs hl hx hr hw => ?_⟩
 have hr0 := hr 0 t rfl
 simp only [List.take_zero, List.map_nil, List.sum_nil, List.drop_zero] at hr0
 have hc : cs.length = P.cellsOf t := by simpa using hl
 rw [List.take_of_length_le (by omega)] at hr0
 match xs, hx with
 | [x], _ =>
  exact h.2 fuel cs x hr0 (fun n hn => hw n (by simp [DataW.weightsEach, hn]))
theorem OpensSeq.cons {α β : Type} {t : TypeId} {ts : List TypeId} {d : Kd α} {d' : Kd β} {G : α → Prop} {G' : β → Prop} (h : Opens enc P W t d G) (h' : OpensSeq enc P W ts d' G') :
  OpensSeq enc P W (t :: ts) (Kd.pair d d') (fun y => G y.1 ∧ G' y.2) := by
 refine ⟨by simp [Kd.pair, h.1, h'.1], fun fuel cs xs hl hx hr hw => ?_⟩
 match xs, hx with
 | x :: xs, hx =>
  have hr0 := hr 0 t rfl
  simp only [List.take_zero, List.map_nil, List.sum_nil, List.drop_zero] at hr0
  obtain ⟨y, hy, hg⟩ := h.2 fuel _ x hr0 (fun n hn => hw n (by simp [DataW.weightsEach, hn]))
  have hl2 : (cs.drop (P.cellsOf t)).length = (ts.map P.cellsOf).sum := by
   rw [List.length_drop, hl, List.map_cons, List.sum_cons]
   omega
  obtain ⟨y', hy', hg'⟩ := h'.2 fuel (cs.drop (P.cellsOf t)) xs hl2 (by simpa using hx) (fun i t' ht' => by
   have := hr (i + 1) t' (by simpa using ht')
   simp only [List.take_succ_cons, List.map_cons, List.sum_cons, List.getElem?_cons_succ] at this
   rw [List.drop_drop]
   exact this) (fun n hn => hw n (by simp only [List.map_cons, DataW.weightsEach, List.mem_append]; exact .inr hn))
  exact ⟨(y, y'), ⟨_, _, (List.take_append_drop (P.cellsOf t) cs).symm, hy, hy'⟩, hg, hg'⟩
theorem Opens.struct {α β : Type} {t : TypeId} {fs : Array Field} (ts : List TypeId) {d : Kd α} {G : α → Prop} (f : β → α) (g : α → β) (hfg : ∀ a, f (g a) = a) (ht : P.underlying t = some (.struct fs)) (hts : fs.toList.map (·.type) = ts)
  (hoff0 : fs.toList.map (·.offset) = (List.range fs.size).map fun i => ((ts.take i).map P.cellsOf).sum) (hc : P.cellsOf t = (ts.map P.cellsOf).sum) (h : OpensSeq enc P W ts d G) : Opens enc P W t (Kd.iso d f) (fun y => G (f y)) := by
 have hoff : ∀ i fd, fs[i]? = some fd → fd.offset = ((ts.take i).map P.cellsOf).sum := by
  intro i fd hi
  have h1 : (fs.toList.map (·.offset))[i]? = some fd.offset := by rw [List.getElem?_map, Array.getElem?_toList, hi]; rfl
  have hlt : i < fs.size := (Array.getElem?_eq_some_iff.1 hi).1
  rw [hoff0, List.getElem?_map, List.getElem?_range hlt] at h1
  simpa using h1.symm
 refine ⟨hc.trans h.1, fun fuel cs x hx hw => ?_⟩
 obtain ⟨xs, n, rfl, rfl, hcl, hxl, hfd⟩ := DataW.trod_struct ht hx
 have hwt : DataW.weights P t (.agg (xs.map (·.1)) : DataW H) = DataW.weightsEach P ts (xs.map (·.1)) := by
  rw [DataW.weights]
  simp only [ht, hts]
 obtain ⟨y, hy, hg⟩ := h.2 n cs xs (hcl.trans hc) (by rw [hxl, ← hts]; simp) (fun i t' ht' => by
  rw [← hts, List.getElem?_map, Option.map_eq_some_iff] at ht'
  obtain ⟨fd, hfi, rfl⟩ := ht'
  rw [Array.getElem?_toList] at hfi
  rw [← hoff i fd hfi]
  exact hfd i fd hfi) (fun n hn => hw n (by rw [hwt]; exact hn))
 exact ⟨g y, by show d.K W (f (g y)) cs; rw [hfg]; exact hy, by show G (f (g y)); rw [hfg]; exact hg⟩
theorem weights_each {ts : List TypeId} : ∀ {ds : List (DataW H)} {j : Nat} {t : TypeId} {d : DataW H}, ts[j]? = some t → ds[j]? = some d → ∀ n ∈ d.weights P t, n ∈ DataW.weightsEach P ts ds := by
 induction ts with
 | nil => intro ds j t d h; simp at h
 | cons t' ts ih =>
  intro ds j t d h h' n hn
  cases ds with
  | nil => simp at h'
  | cons d' ds =>
   rw [DataW.weightsEach, List.mem_append]
   cases j with
   | zero =>
    simp only [List.getElem?_cons_zero, Option.some.injEq] at h h'
    subst h h'
    exact .inl hn
   | succ j => exact .inr (ih (by simpa using h) (by simpa using h') n hn)
end
theorem sum_bulk {H : Type} {α : Type} (m : α → Nat) (D : Nat → DataW H) (l : List α) (n : Nat) (hl : l.length = n) (h : ∀ i (hi : i < n) (hl' : i < l.length), m l[i] ≤ Rows.uptoBulk (D i)) : (l.map m).sum ≤ Rows.uptoBulkAll ((List.range n).map D) := by
 subst hl
 induction l generalizing D with
 | nil => exact Nat.zero_le _
 | cons x l ih =>
  rw [List.length_cons, List.range_succ_eq_map, List.map_cons, List.map_cons, List.map_map, List.sum_cons, Rows.uptoBulkAll]
  exact Nat.add_le_add (h 0 (by simp) (by simp)) (ih (D ∘ Nat.succ) (fun i hi hl' => h (i + 1) (by simpa using hi) (by simpa using hl')))
section
variable {H : Type} (enc : TypeId × Value → H) (P : Program) (W : World)
def OpensM {α : Type} (t : TypeId) (d : Kd α) (G : α → Prop) (m : α → Nat) : Prop :=
 P.cellsOf t = d.sz ∧ ∀ (fuel : Nat) (cs : List Value) (x : DataW H × List MemPlace), DataW.trod enc P W 0 (fun _ => true) true fuel t cs = some x → (∀ n ∈ x.1.weights P t, n ≤ reachBytes) → ∃ y, d.K W y cs ∧ G y ∧ m y ≤ Rows.uptoBulk x.1
def OpensSeqM {α : Type} (ts : List TypeId) (d : Kd α) (G : α → Prop) (m : α → Nat) : Prop :=
 (ts.map P.cellsOf).sum = d.sz ∧ ∀ (fuel : Nat) (cs : List Value) (xs : List (DataW H × List MemPlace)), cs.length = (ts.map P.cellsOf).sum → xs.length = ts.length →
  (∀ i t, ts[i]? = some t → DataW.trod enc P W 0 (fun _ => true) true fuel t ((cs.drop ((ts.take i).map P.cellsOf).sum).take (P.cellsOf t)) = xs[i]?) →
  (∀ n ∈ DataW.weightsEach P ts (xs.map (·.1)), n ≤ reachBytes) → ∃ y, d.K W y cs ∧ G y ∧ m y ≤ Rows.uptoBulkAll (xs.map (·.1))
variable {enc P W}
theorem OpensM.int {t : TypeId} {k : IntKind} (ht : P.underlying t = some (.int k)) (hc : P.cellsOf t = 1) : OpensM enc P W t (Kd.int k) (fun n => (Lit.int k n).wf = true) (fun _ => 1) := by
 refine ⟨hc, fun fuel cs x h _ => ?_⟩
 obtain ⟨n, rfl, rfl, hw⟩ := DataW.trod_int ht h
 exact ⟨n, rfl, hw, Nat.le_refl _⟩
theorem OpensM.bool {t : TypeId} (ht : P.underlying t = some .bool) (hc : P.cellsOf t = 1) : OpensM enc P W t Kd.bool (fun _ => True) (fun _ => 0) := by
 refine ⟨hc, fun fuel cs x h _ => ?_⟩
 cases fuel with
 | zero => simp [DataW.trod] at h
 | succ n =>
  unfold DataW.trod at h
  rw [ht] at h
  split at h <;> first | exact ⟨_, rfl, trivial, Nat.zero_le _⟩ | simp_all
theorem OpensM.string {t : TypeId} (ht : P.underlying t = some .string) (hc : P.cellsOf t = 1) : OpensM enc P W t Kd.string (fun s => s.size ≤ 140737488351232) (fun s => s.size + 1) := by
 refine ⟨hc, fun fuel cs x h hw => ?_⟩
 obtain ⟨s, rfl, rfl, _⟩ := DataW.trod_string ht h
 refine ⟨s, rfl, ?_, ?_⟩
 ·have := hw s.data.toList.length (by simp [DataW.weights])
  simpa [reachBytes, Array.length_toList] using this
 ·show s.size + 1 ≤ s.data.toList.length + 1
  rw [Array.length_toList]
  exact Nat.le_refl _
theorem OpensM.slice {α : Type} (z : α) {t e : TypeId} {d : Kd α} {G : α → Prop} {m : α → Nat} (bytes : Nat) (ht : P.underlying t = some (.slice e)) (hc : P.cellsOf t = 1) (hb : P.bytesOf e = bytes) (h : OpensM enc P W e d G m) :
  OpensM enc P W t (Kd.slice e d) (fun xs => xs.length * bytes ≤ 140737488351232 ∧ xs.length ≤ 9223372036854775807 ∧ ∀ x ∈ xs, G x) (fun xs => (xs.map m).sum + 1) := by
 refine ⟨hc, fun fuel cs x hx hw => ?_⟩
 rcases Go.Deep.open_slice ht hx with ⟨rfl, rfl⟩ | ⟨a, len, cap, mm, n, D, Pl, rfl, _, hlc, hcm, hm, rfl, hel⟩
 ·exact ⟨[], ⟨none, 0, rfl, Nat.le_refl _, Kd.C_nil d W⟩, ⟨by simp, by simp, fun x hx => by cases hx⟩, by simp [Rows.uptoBulk]⟩
 ·have hlm : len ≤ mm := by rw [hm]; split <;> omega
  have hwt : DataW.weights P t (.slice ((List.range len).map D) ((List.range (mm - len)).map fun j => D (len + j))) =
    (((List.range len).map D).length + ((List.range (mm - len)).map fun j => D (len + j)).length) * P.bytesOf e :: (DataW.weightsAll P e ((List.range len).map D) ++ DataW.weightsAll P e ((List.range (mm - len)).map fun j => D (len + j))) := by
   rw [DataW.weights]
   simp only [ht]
  have hel' : ∀ i, i < len → ∃ y, (∃ cs', W.cells? 0 (a.add (i * P.cellsOf e)) (P.cellsOf e) = some cs' ∧ d.K W y cs') ∧ G y ∧ m y ≤ Rows.uptoBulk (D i) := by
   intro i hi
   obtain ⟨cs', h1, h2⟩ := hel i (by omega)
   obtain ⟨y, hy, hg, hmm⟩ := h.2 n cs' _ h2 (fun n hn => hw n (by
    rw [hwt]
    exact List.mem_cons_of_mem _ (List.mem_append_left _ (weights_all (List.mem_map.2 ⟨i, List.mem_range.2 hi, rfl⟩) n hn))))
   exact ⟨y, ⟨cs', h1, hy⟩, hg, hmm⟩
  obtain ⟨l, hll, hl⟩ := choose_list z _ len hel'
  have hb1 := hw _ (by rw [hwt]; exact List.mem_cons_self)
  have hle : len * bytes ≤ 140737488351232 := by
   simp only [List.length_map, List.length_range, hb, reachBytes] at hb1
   exact Nat.le_trans (Nat.mul_le_mul_right _ (by omega)) hb1
  have hmx : len ≤ 9223372036854775807 := by
   simp only [maxLen] at hcm
   omega
  refine ⟨l, ⟨some a, cap, by rw [hll], by omega, by rw [hll], by omega, fun _ => ⟨a, rfl, fun j p hj => ?_⟩⟩, ⟨by rw [hll]; exact hle, by omega, fun x hx => ?_⟩, ?_⟩
  ·obtain ⟨hjl, rfl⟩ := List.getElem?_eq_some_iff.1 hj
   obtain ⟨⟨cs', h1, hK⟩, _, _⟩ := hl j (by omega) hjl
   obtain ⟨_, hcl, hcell⟩ := World.cells?_some h1
   refine ⟨cs', by rw [hcl, h.1], hK, fun i u hu => ?_⟩
   have hi : i < P.cellsOf e := by
    have := (List.getElem?_eq_some_iff.1 hu).1
    omega
   have := hcell i hi
   rw [hu, add_add, h.1] at this
   exact this
  ·obtain ⟨j, hj, rfl⟩ := List.getElem_of_mem hx
   exact (hl j (by omega) hj).2.1
  ·have hsum : (l.map m).sum ≤ Rows.uptoBulkAll ((List.range len).map D) := sum_bulk m D l len hll (fun i hi hl' => (hl i hi hl').2.2)
   show (l.map m).sum + 1 ≤ Rows.uptoBulkAll _ + Rows.uptoBulkAll _ + 1
   omega
theorem OpensSeqM.one {α : Type} {t : TypeId} {d : Kd α} {G : α → Prop} {m : α → Nat} (h : OpensM enc P W t d G m) : OpensSeqM enc P W [t] d G m := by
 refine ⟨by simp [h.1], fun fuel cs xs hl hx hr hw => ?_⟩
 have hr0 := hr 0 t rfl
 simp only [List.take_zero, List.map_nil, List.sum_nil, List.drop_zero] at hr0
 have hc : cs.length = P.cellsOf t := by simpa using hl
 rw [List.take_of_length_le (by omega)] at hr0
 match xs, hx with
 | [x], _ =>
  obtain ⟨y, hy, hg, hmm⟩ := h.2 fuel cs x hr0 (fun n hn => hw n (by simp [DataW.weightsEach, hn]))
  exact ⟨y, hy, hg, by simpa [Rows.uptoBulkAll] using hmm⟩
theorem OpensSeqM.cons {α β : Type} {t : TypeId} {ts : List TypeId} {d : Kd α} {d' : Kd β} {G : α → Prop} {G' : β → Prop} {m : α → Nat} {m' : β → Nat} (h : OpensM enc P W t d G m) (h' : OpensSeqM enc P W ts d' G' m') :
  OpensSeqM enc P W (t :: ts) (Kd.pair d d') (fun y => G y.1 ∧ G' y.2) (fun y => m y.1 + m' y.2) := by
 refine ⟨by simp [Kd.pair, h.1, h'.1], fun fuel cs xs hl hx hr hw => ?_⟩
 match xs, hx with
 | x :: xs, hx =>
  have hr0 := hr 0 t rfl
  simp only [List.take_zero, List.map_nil, List.sum_nil, List.drop_zero] at hr0
  obtain ⟨y, hy, hg, hm1⟩ := h.2 fuel _ x hr0 (fun n hn => hw n (by simp [DataW.weightsEach, hn]))
  have hl2 : (cs.drop (P.cellsOf t)).length = (ts.map P.cellsOf).sum := by
   rw [List.length_drop, hl, List.map_cons, List.sum_cons]
   omega
  obtain ⟨y', hy', hg', hm2⟩ := h'.2 fuel (cs.drop (P.cellsOf t)) xs hl2 (by simpa using hx) (fun i t' ht' => by
   have := hr (i + 1) t' (by simpa using ht')
   simp only [List.take_succ_cons, List.map_cons, List.sum_cons, List.getElem?_cons_succ] at this
   rw [List.drop_drop]
   exact this) (fun n hn => hw n (by simp only [List.map_cons, DataW.weightsEach, List.mem_append]; exact .inr hn))
  exact ⟨(y, y'), ⟨_, _, (List.take_append_drop (P.cellsOf t) cs).symm, hy, hy'⟩, ⟨hg, hg'⟩, Nat.add_le_add hm1 hm2⟩
theorem OpensM.struct {α β : Type} {t : TypeId} {fs : Array Field} (ts : List TypeId) {d : Kd α} {G : α → Prop} {m : α → Nat} (f : β → α) (g : α → β) (hfg : ∀ a, f (g a) = a) (ht : P.underlying t = some (.struct fs)) (hts : fs.toList.map (·.type) = ts)
  (hoff0 : fs.toList.map (·.offset) = (List.range fs.size).map fun i => ((ts.take i).map P.cellsOf).sum) (hc : P.cellsOf t = (ts.map P.cellsOf).sum) (h : OpensSeqM enc P W ts d G m) : OpensM enc P W t (Kd.iso d f) (fun y => G (f y)) (fun y => m (f y)) := by
 have hoff : ∀ i fd, fs[i]? = some fd → fd.offset = ((ts.take i).map P.cellsOf).sum := by
  intro i fd hi
  have h1 : (fs.toList.map (·.offset))[i]? = some fd.offset := by rw [List.getElem?_map, Array.getElem?_toList, hi]; rfl
  have hlt : i < fs.size := (Array.getElem?_eq_some_iff.1 hi).1
  rw [hoff0, List.getElem?_map, List.getElem?_range hlt] at h1
  simpa using h1.symm
 refine ⟨hc.trans h.1, fun fuel cs x hx hw => ?_⟩
 obtain ⟨xs, n, rfl, rfl, hcl, hxl, hfd⟩ := DataW.trod_struct ht hx
 have hwt : DataW.weights P t (.agg (xs.map (·.1)) : DataW H) = DataW.weightsEach P ts (xs.map (·.1)) := by
  rw [DataW.weights]
  simp only [ht, hts]
 obtain ⟨y, hy, hg, hmm⟩ := h.2 n cs xs (hcl.trans hc) (by rw [hxl, ← hts]; simp) (fun i t' ht' => by
  rw [← hts, List.getElem?_map, Option.map_eq_some_iff] at ht'
  obtain ⟨fd, hfi, rfl⟩ := ht'
  rw [Array.getElem?_toList] at hfi
  rw [← hoff i fd hfi]
  exact hfd i fd hfi) (fun n hn => hw n (by rw [hwt]; exact hn))
 exact ⟨g y, by show d.K W (f (g y)) cs; rw [hfg]; exact hy, by show G (f (g y)); rw [hfg]; exact hg, by show m (f (g y)) ≤ Rows.uptoBulkAll _ + 1; rw [hfg]; omega⟩
end
end Go.Proofs.Ytbfehjncllkogaa.Q
