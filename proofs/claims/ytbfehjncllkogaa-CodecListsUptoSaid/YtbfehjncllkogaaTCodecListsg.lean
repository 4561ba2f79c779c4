/- Texts of this session laid together (shrink.py): what the claim's law rests on. -/
import Derived.Below
import Derived.Deep.Draws
import Derived.Deep.AppendLies
import Derived.Maps.AppendAt
import Derived.OwnWalk
import Derived.Laws.BytesArg
import Derived.Laws.MakeOwn
import Derived.Laws.OwnMore
import Derived.Deep.OwnRows
import Derived.Tactics
import Derived.Lib.ConvBytes
import Derived.Laws.Slices
import Derived.WalkKit
import Derived.KernelRfl
import Derived.RowKit3
import Derived.Deep.LoopGhost
import Derived.Deep.QuietTactic
import Derived.BigQuiet
import Derived.WideLaws
import Derived.Deep.DeepCutAuto
import Derived.Deep.CutBlock
import Derived.Deep.RegionHeld3
import Derived.Laws.Rows
import Derived.Lib.AppendStr
import Derived.ArgAppend
import Derived.Laws.IdiomCopy
import Derived.RowKit
import Derived.OrdersHeld
import Derived.Laws.BitsLemmas
import Derived.Laws.StructEq
import Derived.Test.YtbfehjncllkogaaProg
import Derived.WalkMore
import Derived.Lib.Strings
import Derived.Outline
import Derived.Test.YtbfehjncllkogaaTCodecListsf
set_option linter.unusedVariables false
set_option linter.unusedSimpArgs false
set_option maxRecDepth 100000
set_option maxHeartbeats 8000000
open Bool renaming true → ZT, false → ZF
namespace Go.Proofs.Ytbfehjncllkogaa.Q
open Go.RowKit Go.Proofs.YtbfehjncllkogaaW.PrintWords Go.Proofs.YtbfehjncllkogaaW.PrintLast Go.Proofs.YtbfehjncllkogaaW.PrintMore
attribute [local go_sem] max2_int min2_int max_two min_two max_three min_three max_four min_four
def surmiseref10_Text.f (k : Nat) (a0 : ByteArray) : Option (ByteArray) := (surmiseref01_Number.f k (a0.size : Int)).bind fun t297 => (if t297.size + a0.size ≤ 9223372036854775807 then (some (t297 ++ a0)) else (none))
theorem surmiseref10_Text.calls (k : Nat) (a0 : ByteArray) (r : ByteArray) (w : World) (h : surmiseref10_Text.f k a0 = some r) :
  Calls Try.prog 51 #[.string a0] w fun e w' => e = .returned (.string r) ∧ Below w.heap.size w w' := by
 have HB := Aside0.mk (Below.refl w.heap.size w)
 have H : ((surmiseref01_Number.f k (a0.size : Int)).bind fun t297 => (if t297.size + a0.size ≤ 9223372036854775807 then (some (t297 ++ a0)) else (none))) = some r := h
 clear h
 replace H := Option.bind_eq_some_iff.mp H
 obtain ⟨t297, A20, H⟩ := H
 replace H : (if t297.size + a0.size ≤ 9223372036854775807 then (some (t297 ++ a0)) else (none)) = some r := H
 have A2 := Aside0.mk A20
 clear A20
 by_cases c3 : t297.size + a0.size ≤ 9223372036854775807
 ·rw [if_pos c3] at H
  have c3b0 := eq_true c3
  have c3b1 : decide (t297.size + a0.size ≤ 9223372036854775807) = true := decide_eq_true c3
  try have c3b2 : (9223372036854775807 < t297.size + a0.size) = False := eq_false (Nat.not_lt.2 c3)
  obtain rfl := Option.some.inj H
  go_enter Try.func51, Try.ntmps51
  go_wp2_with (first | ((with_reducible refine gate_callee (f := 52) rfl ?_); refine goesL_ (some 5) rfl rfl Try.func52 (by kernel_rfl) rfl #[.int .i64 (a0.size : Int)] rfl (by (try simp only [List.map_toArray, List.map_cons, List.map_nil]); first | done | rfl | (simp only [List.length_drop, List.length_take]; rfl)) ?_; (with_reducible refine (surmiseref01_Number.calls k (a0.size : Int) t297 _ A2.out).mono ?_); rintro e w4 ⟨rfl, hb⟩; refine ⟨_, rfl, ?_⟩; have n0_ := Aside0.mk (below_step (by repeat (first | (with_reducible first | exact HB.out | apply below_alloc | apply pw_below_drewN | apply below_drew1) | exact HB.out)) hb); clear HB; have HB := n0_; clear n0_; (try clear hb); (try clear hb2); (try clear hk); (try clear hi)))
  go_ret
  exact ⟨by first | rfl | (simp [errW_none, errW_some] <;> rfl) | (simp [*, errW_none, errW_some] <;> rfl), by repeat (first | (with_reducible first | exact HB.out | apply below_alloc | apply pw_below_drewN | apply below_drew1) | exact HB.out)⟩
 ·rw [if_neg c3] at H
  exact absurd H (by simp)
def surmiseref10_list.f (k : Nat) (l0 : List Int) : Option (ByteArray) := (surmiseref01_Number.f k (l0.length : Int)).bind fun t298 => ((surmiseref10_Numbers.f k l0).bind fun t299 => (if t298.size + t299.size ≤ 9223372036854775807 then (some (t298 ++ t299)) else (none)))
theorem surmiseref10_list.calls (k : Nat) (A0 : Option Addr) (c0 : Nat) (l0 : List Int) (r : ByteArray) (w : World) (hr0 : Kd.C (Kd.int .i64) w A0 l0.length l0) (hc0 : l0.length ≤ c0) (h : surmiseref10_list.f k l0 = some r) :
  Calls Try.prog 53 #[.slice A0 l0.length c0] w fun e w' => e = .returned (.string r) ∧ Below w.heap.size w w' := by
 have HR0 := Aside0.mk hr0
 have HC0 := Aside0.mk hc0
 clear hr0 hc0
 have HB := Aside0.mk (Below.refl w.heap.size w)
 have H : ((surmiseref01_Number.f k (l0.length : Int)).bind fun t298 => ((surmiseref10_Numbers.f k l0).bind fun t299 => (if t298.size + t299.size ≤ 9223372036854775807 then (some (t298 ++ t299)) else (none)))) = some r := h
 clear h
 replace H := Option.bind_eq_some_iff.mp H
 obtain ⟨t298, A20, H⟩ := H
 replace H : ((surmiseref10_Numbers.f k l0).bind fun t299 => (if t298.size + t299.size ≤ 9223372036854775807 then (some (t298 ++ t299)) else (none))) = some r := H
 have A2 := Aside0.mk A20
 clear A20
 replace H := Option.bind_eq_some_iff.mp H
 obtain ⟨t299, A30, H⟩ := H
 replace H : (if t298.size + t299.size ≤ 9223372036854775807 then (some (t298 ++ t299)) else (none)) = some r := H
 have A3 := Aside0.mk A30
 clear A30
 by_cases c4 : t298.size + t299.size ≤ 9223372036854775807
 ·rw [if_pos c4] at H
  have c4b0 := eq_true c4
  have c4b1 : decide (t298.size + t299.size ≤ 9223372036854775807) = true := decide_eq_true c4
  try have c4b2 : (9223372036854775807 < t298.size + t299.size) = False := eq_false (Nat.not_lt.2 c4)
  obtain rfl := Option.some.inj H
  go_enter Try.func53, Try.ntmps53
  go_wp2_with (first | ((with_reducible refine gate_callee (f := 52) rfl ?_); refine goesL_ (some 5) rfl rfl Try.func52 (by kernel_rfl) rfl #[.int .i64 (l0.length : Int)] rfl (by (try simp only [List.map_toArray, List.map_cons, List.map_nil]); first | done | rfl | (simp only [List.length_drop, List.length_take]; rfl)) ?_; (with_reducible refine (surmiseref01_Number.calls k (l0.length : Int) t298 _ A2.out).mono ?_); rintro e w5 ⟨rfl, hb⟩; refine ⟨_, rfl, ?_⟩; have n0_ := Aside0.mk (below_step (by repeat (first | (with_reducible first | exact HB.out | apply below_alloc | apply pw_below_drewN | apply below_drew1) | exact HB.out)) hb); clear HB; have HB := n0_; clear n0_; (try clear hb); (try clear hb2); (try clear hk); (try clear hi)) | ((with_reducible refine gate_callee (f := 50) rfl ?_); refine goesL_ (some 7) rfl rfl Try.func50 (by kernel_rfl) rfl #[.slice A0 l0.length c0] rfl (by (try simp only [List.map_toArray, List.map_cons, List.map_nil]); first | done | rfl | (simp only [List.length_drop, List.length_take]; rfl)) ?_; (with_reducible refine (surmiseref10_Numbers.calls k _ _ l0 t299 _ ?side1 ?side2 A3.out).mono ?_); (case side1 => repeat (first | exact (Kd.C_below HR0.out HB.out) | (with_reducible refine Kd.C_alloc ?_ _) | (with_reducible refine Kd.C_drewN ?_ _) | (with_reducible refine Kd.C_drew ?_))); (case side2 => exact HC0.out); rintro e w6 ⟨rfl, hb⟩; refine ⟨_, rfl, ?_⟩; have n0_ := Aside0.mk (below_step (by repeat (first | (with_reducible first | exact HB.out | apply below_alloc | apply pw_below_drewN | apply below_drew1) | exact HB.out)) hb); clear HB; have HB := n0_; clear n0_; (try clear hb); (try clear hb2); (try clear hk); (try clear hi)))
  go_ret
  exact ⟨by first | rfl | (simp [errW_none, errW_some] <;> rfl) | (simp [*, errW_none, errW_some] <;> rfl), by repeat (first | (with_reducible first | exact HB.out | apply below_alloc | apply pw_below_drewN | apply below_drew1) | exact HB.out)⟩
 ·rw [if_neg c4] at H
  exact absurd H (by simp)
def surmiseref10_LayItems.l0 : Nat → List (S93) → ByteArray → Int → Option (ByteArray)
 | 0, _, _, _ => none
 | k + 1, x0, x3, x4 => if x4 < (x0.length : Int) then (if 0 ≤ x4 then ((surmiseref10_Text.f k ((rd_T93 x0 x4).f0)).bind fun t428 => (if x3.size + t428.size ≤ 9223372036854775807 then ((surmiseref10_Numbers.f k (([(rd_T93 x0 x4).f1.f0, (rd_T93 x0 x4).f1.f1] : List Int))).bind fun t434 => (if (x3 ++ t428).size + t434.size ≤ 9223372036854775807 then ((surmiseref10_list.f k ((rd_T93 x0 x4).f1.f2)).bind fun t436 => (if ((x3 ++ t428) ++ t434).size + t436.size ≤ 9223372036854775807 then (surmiseref10_LayItems.l0 k x0 (((x3 ++ t428) ++ t434) ++ t436) (wrap64 (x4 + 1))) else (none))) else (none))) else (none))) else (none)) else (some x3)
def surmiseref10_LayItems.f (k : Nat) (l0 : List (S93)) : Option (ByteArray) := (surmiseref01_Number.f k (l0.length : Int)).bind fun t426 => (surmiseref10_LayItems.l0 k l0 t426 0)
def surmiseref10_LayItems.T5 : Bool × List (List Nat × List Nat) := (true, [([], []), ([], []), ([], []), ([1, 2], [1, 2]), ([3], [3]), ([4], [4]), ([5], [5]), ([0, 6], [0, 6]), ([], []), ([], []), ([8, 9], [8, 9]), ([10], [10]), ([11], [11]), ([12], [12]), ([], []), ([], []), ([14, 15], [14, 15]), ([16], [16]), ([17], [17]), ([18], [18]), ([13, 19], [13, 19]), ([20, 6], [20]), ([7, 21], [7, 21]), ([], []), ([], []), ([23, 24], [23, 24]), ([25], [25]), ([26], [26]), ([27], [27]), ([28, 21], [28]), ([22, 29], [22, 29]), ([30, 29, 0, 1, 2, 3, 4, 5, 6, 7, 8, 9, 10, 11, 12, 13, 14, 15, 16, 17, 18, 19, 20, 21, 22, 23, 24, 25, 26, 27, 28, 29, 30], [0, 30])])
def surmiseref10_LayItems.B5 : List Nat := [0, 0, 0, 6, 14, 30, 62, 127, 0, 0, 768, 1792, 3840, 7936, 0, 0, 49152, 114688, 245760, 507904, 1048320, 2097022, 4194303, 0, 0, 25165824, 58720256, 125829120, 260046848, 532676478, 1073741823, 2147483647]
theorem surmiseref10_LayItems.tab5 : rtab .any (opsOf Try.f23 5) = surmiseref10_LayItems.T5 := by kernel_rfl
theorem surmiseref10_LayItems.bits5 : waitsOk surmiseref10_LayItems.T5.2 surmiseref10_LayItems.B5 = true := by kernel_rfl
theorem surmiseref10_LayItems.calls (k : Nat) (A0 : Option Addr) (c0 : Nat) (l0 : List (S93)) (r : ByteArray) (w : World) (hr0 : Kd.C k93 w A0 l0.length l0) (hc0 : l0.length ≤ c0) (h : surmiseref10_LayItems.f k l0 = some r) :
  Calls Try.prog 23 #[.slice A0 l0.length c0] w fun e w' => e = .returned (.string r) ∧ Below w.heap.size w w' := by
 have HR0 := Aside0.mk hr0
 have HC0 := Aside0.mk hc0
 clear hr0 hc0
 have HB := Aside0.mk (Below.refl w.heap.size w)
 have H : ((surmiseref01_Number.f k (l0.length : Int)).bind fun t426 => (surmiseref10_LayItems.l0 k l0 t426 0)) = some r := h
 clear h
 replace H := Option.bind_eq_some_iff.mp H
 obtain ⟨t426, A20, H⟩ := H
 replace H : (surmiseref10_LayItems.l0 k l0 t426 0) = some r := H
 have A2 := Aside0.mk A20
 clear A20
 have H' := Aside0.mk H
 clear H
 go_enter Try.func23, Try.ntmps23
 go_wp2_with (first | ((with_reducible refine gate_callee (f := 52) rfl ?_); refine goesL_ (some 7) rfl rfl Try.func52 (by kernel_rfl) rfl #[.int .i64 (l0.length : Int)] rfl (by (try simp only [List.map_toArray, List.map_cons, List.map_nil]); first | done | rfl | (simp only [List.length_drop, List.length_take]; rfl)) ?_; (with_reducible refine (surmiseref01_Number.calls k (l0.length : Int) t426 _ A2.out).mono ?_); rintro e w3 ⟨rfl, hb⟩; refine ⟨_, rfl, ?_⟩; have n0_ := Aside0.mk (below_step (by repeat (first | (with_reducible first | exact HB.out | apply below_alloc | apply pw_below_drewN | apply below_drew1) | exact HB.out)) hb); clear HB; have HB := n0_; clear n0_; (try clear hb); (try clear hb2); (try clear hk); (try clear hi)))
 go_loopg [3, 4] k (fun kq v3 v4 w' => ∃ (x3_1 : ByteArray) (x4_1 : Int), v3 = .string x3_1 ∧ v4 = .int .i64 x4_1 ∧ Aside0 (surmiseref10_LayItems.l0 kq l0 x3_1 x4_1 = some r) ∧ Aside0 (kq ≤ k) ∧ Aside0 (Below w.heap.size w w'))
 case atStart => exact ⟨(t426), (0), (by first | rfl | (simp; done) | (simp [*]; done)), (by first | rfl | (simp; done) | (simp [*]; done)), H', ⟨Nat.le_refl _⟩, ⟨by repeat (first | (with_reducible first | exact HB.out | apply below_alloc | apply pw_below_drewN | apply below_drew1) | exact HB.out)⟩⟩
 case round =>
  clear H'
  try clear c2
  try clear p2
  obtain ⟨x3_1, x4_1, rfl, rfl, HA, HK1, HB⟩ := hrel
  cases gk with
  | zero => exact absurd HA.out (by simp [surmiseref10_LayItems.l0])
  | succ k1 =>
   have H := HA.out
   clear HA
   simp only [surmiseref10_LayItems.l0] at H
   by_cases c4 : x4_1 < (l0.length : Int)
   ·rw [if_pos c4] at H
    have c4b0 : decide (x4_1 < (l0.length : Int)) = true := decide_eq_true c4
    clear c4
    by_cases c5 : 0 ≤ x4_1
    ·rw [if_pos c5] at H
     have c5b0 : decide (0 ≤ x4_1) = true := decide_eq_true c5
     clear c5
     replace H := Option.bind_eq_some_iff.mp H
     obtain ⟨t428, A60, H⟩ := H
     replace H : (if x3_1.size + t428.size ≤ 9223372036854775807 then ((surmiseref10_Numbers.f k1 (([(rd_T93 l0 x4_1).f1.f0, (rd_T93 l0 x4_1).f1.f1] : List Int))).bind fun t434 => (if (x3_1 ++ t428).size + t434.size ≤ 9223372036854775807 then ((surmiseref10_list.f k1 ((rd_T93 l0 x4_1).f1.f2)).bind fun t436 => (if ((x3_1 ++ t428) ++ t434).size + t436.size ≤ 9223372036854775807 then (surmiseref10_LayItems.l0 k1 l0 (((x3_1 ++ t428) ++ t434) ++ t436) (wrap64 (x4_1 + 1))) else (none))) else (none))) else (none)) = some r := H
     have A6 := Aside0.mk A60
     clear A60
     by_cases c7 : x3_1.size + t428.size ≤ 9223372036854775807
     ·rw [if_pos c7] at H
      have c7b0 := eq_true c7
      have c7b1 : decide (x3_1.size + t428.size ≤ 9223372036854775807) = true := decide_eq_true c7
      try have c7b2 : (9223372036854775807 < x3_1.size + t428.size) = False := eq_false (Nat.not_lt.2 c7)
      obtain ⟨y431, hy431⟩ : ∃ y_ : List Int, y_ = (([(rd_T93 l0 x4_1).f1.f0, (rd_T93 l0 x4_1).f1.f1] : List Int)) := ⟨_, rfl⟩
      replace H : ((surmiseref10_Numbers.f k1 y431).bind fun t434 => (if (x3_1 ++ t428).size + t434.size ≤ 9223372036854775807 then ((surmiseref10_list.f k1 ((rd_T93 l0 x4_1).f1.f2)).bind fun t436 => (if ((x3_1 ++ t428) ++ t434).size + t436.size ≤ 9223372036854775807 then (surmiseref10_LayItems.l0 k1 l0 (((x3_1 ++ t428) ++ t434) ++ t436) (wrap64 (x4_1 + 1))) else (none))) else (none))) = some r := by first | (rw [hy431]; with_reducible exact H) | (have H2_ := (Option.bind_some _ _).symm.trans H; rw [hy431]; with_reducible exact H2_) | (have H2_ := (Option.bind_some _ _).symm.trans H; with_reducible exact H2_) | with_reducible exact H | (rw [hy431]; exact H) | exact H
      have Ny431 := Aside0.mk hy431
      clear hy431
      replace H := Option.bind_eq_some_iff.mp H
      obtain ⟨t434, A80, H⟩ := H
      replace H : (if (x3_1 ++ t428).size + t434.size ≤ 9223372036854775807 then ((surmiseref10_list.f k1 ((rd_T93 l0 x4_1).f1.f2)).bind fun t436 => (if ((x3_1 ++ t428) ++ t434).size + t436.size ≤ 9223372036854775807 then (surmiseref10_LayItems.l0 k1 l0 (((x3_1 ++ t428) ++ t434) ++ t436) (wrap64 (x4_1 + 1))) else (none))) else (none)) = some r := H
      have A8 := Aside0.mk A80
      clear A80
      by_cases c9 : (x3_1 ++ t428).size + t434.size ≤ 9223372036854775807
      ·rw [if_pos c9] at H
       have c9b0 := eq_true c9
       have c9b1 : decide ((x3_1 ++ t428).size + t434.size ≤ 9223372036854775807) = true := decide_eq_true c9
       try have c9b2 : (9223372036854775807 < (x3_1 ++ t428).size + t434.size) = False := eq_false (Nat.not_lt.2 c9)
       try (have c9b3 := c9b2; simp only [ByteArray.size_append] at c9b3)
       replace H := Option.bind_eq_some_iff.mp H
       obtain ⟨t436, A100, H⟩ := H
       replace H : (if ((x3_1 ++ t428) ++ t434).size + t436.size ≤ 9223372036854775807 then (surmiseref10_LayItems.l0 k1 l0 (((x3_1 ++ t428) ++ t434) ++ t436) (wrap64 (x4_1 + 1))) else (none)) = some r := H
       have A10 := Aside0.mk A100
       clear A100
       by_cases c11 : ((x3_1 ++ t428) ++ t434).size + t436.size ≤ 9223372036854775807
       ·rw [if_pos c11] at H
        have c11b0 := eq_true c11
        have c11b1 : decide (((x3_1 ++ t428) ++ t434).size + t436.size ≤ 9223372036854775807) = true := decide_eq_true c11
        try have c11b2 : (9223372036854775807 < ((x3_1 ++ t428) ++ t434).size + t436.size) = False := eq_false (Nat.not_lt.2 c11)
        try (have c11b3 := c11b2; simp only [ByteArray.size_append] at c11b3)
        have H' := Aside0.mk H
        clear H
        try go_wp2
        have n0_ := Aside0.mk (below_drew1 HB.out)
        clear HB
        have HB := n0_
        clear n0_
        have p427 : 0 ≤ (x4_1 : Int) := of_decide_eq_true (by first | (with_reducible assumption) | assumption)
        have q427 : x4_1 < (l0.length : Int) := of_decide_eq_true (by first | (with_reducible assumption) | assumption)
        obtain ⟨ad427, A427_3, c427_3, e427, hx427_0, hx427_1, hx427_2, hx427_3, hl427_3, hi427_3⟩ := at_T93 HR0.out x4_1 p427 q427
        have hw427_3 := hx427_3
        have hw427_2 := hx427_2
        have hw427_1 := hx427_1
        have hw427_0 := hx427_0
        cases e427
        replace hx427_0 := (HB.out.cell (World.block_lt_of_cell? w _ hx427_0)).trans hx427_0
        replace hx427_1 := (HB.out.cell (World.block_lt_of_cell? w _ hx427_1)).trans hx427_1
        replace hx427_2 := (HB.out.cell (World.block_lt_of_cell? w _ hx427_2)).trans hx427_2
        replace hx427_3 := (HB.out.cell (World.block_lt_of_cell? w _ hx427_3)).trans hx427_3
        have HR427_3 := Aside0.mk hi427_3
        have HC427_3 := Aside0.mk hl427_3
        clear hi427_3 hl427_3
        replace p427 := eq_true p427
        replace q427 := eq_true q427
        have p429 : 0 ≤ (x4_1 : Int) := of_decide_eq_true (by first | (with_reducible assumption) | assumption)
        have q429 : x4_1 < (l0.length : Int) := of_decide_eq_true (by first | (with_reducible assumption) | assumption)
        obtain ⟨ad429, A429_3, c429_3, e429, hx429_0, hx429_1, hx429_2, hx429_3, hl429_3, hi429_3⟩ := at_T93 HR0.out x4_1 p429 q429
        have hw429_3 := hx429_3
        have hw429_2 := hx429_2
        have hw429_1 := hx429_1
        have hw429_0 := hx429_0
        obtain rfl : ad427 = ad429 := (by injection e429)
        replace hx429_0 := (HB.out.cell (World.block_lt_of_cell? w _ hx429_0)).trans hx429_0
        replace hx429_1 := (HB.out.cell (World.block_lt_of_cell? w _ hx429_1)).trans hx429_1
        replace hx429_2 := (HB.out.cell (World.block_lt_of_cell? w _ hx429_2)).trans hx429_2
        replace hx429_3 := (HB.out.cell (World.block_lt_of_cell? w _ hx429_3)).trans hx429_3
        have HR429_3 := Aside0.mk hi429_3
        have HC429_3 := Aside0.mk hl429_3
        clear hi429_3 hl429_3
        replace p429 := eq_true p429
        replace q429 := eq_true q429
        have ea_ := Option.some.inj (hx427_3.symm.trans hx429_3)
        injection ea_ with ea_ en_ ec_
        subst ea_
        subst ec_
        clear en_
        have p430 : 0 ≤ (x4_1 : Int) := of_decide_eq_true (by first | (with_reducible assumption) | assumption)
        have q430 : x4_1 < (l0.length : Int) := of_decide_eq_true (by first | (with_reducible assumption) | assumption)
        obtain ⟨ad430, A430_3, c430_3, e430, hx430_0, hx430_1, hx430_2, hx430_3, hl430_3, hi430_3⟩ := at_T93 HR0.out x4_1 p430 q430
        have hw430_3 := hx430_3
        have hw430_2 := hx430_2
        have hw430_1 := hx430_1
        have hw430_0 := hx430_0
        obtain rfl : ad427 = ad430 := (by injection e430)
        replace hx430_0 := (HB.out.cell (World.block_lt_of_cell? w _ hx430_0)).trans hx430_0
        replace hx430_1 := (HB.out.cell (World.block_lt_of_cell? w _ hx430_1)).trans hx430_1
        replace hx430_2 := (HB.out.cell (World.block_lt_of_cell? w _ hx430_2)).trans hx430_2
        replace hx430_3 := (HB.out.cell (World.block_lt_of_cell? w _ hx430_3)).trans hx430_3
        have HR430_3 := Aside0.mk hi430_3
        have HC430_3 := Aside0.mk hl430_3
        clear hi430_3 hl430_3
        replace p430 := eq_true p430
        replace q430 := eq_true q430
        have ea_ := Option.some.inj (hx427_3.symm.trans hx430_3)
        injection ea_ with ea_ en_ ec_
        subst ea_
        subst ec_
        clear en_
        have p435 : 0 ≤ (x4_1 : Int) := of_decide_eq_true (by first | (with_reducible assumption) | assumption)
        have q435 : x4_1 < (l0.length : Int) := of_decide_eq_true (by first | (with_reducible assumption) | assumption)
        obtain ⟨ad435, A435_3, c435_3, e435, hx435_0, hx435_1, hx435_2, hx435_3, hl435_3, hi435_3⟩ := at_T93 HR0.out x4_1 p435 q435
        have hw435_3 := hx435_3
        have hw435_2 := hx435_2
        have hw435_1 := hx435_1
        have hw435_0 := hx435_0
        obtain rfl : ad427 = ad435 := (by injection e435)
        replace hx435_0 := (HB.out.cell (World.block_lt_of_cell? w _ hx435_0)).trans hx435_0
        replace hx435_1 := (HB.out.cell (World.block_lt_of_cell? w _ hx435_1)).trans hx435_1
        replace hx435_2 := (HB.out.cell (World.block_lt_of_cell? w _ hx435_2)).trans hx435_2
        replace hx435_3 := (HB.out.cell (World.block_lt_of_cell? w _ hx435_3)).trans hx435_3
        have HR435_3 := Aside0.mk hi435_3
        have HC435_3 := Aside0.mk hl435_3
        clear hi435_3 hl435_3
        replace p435 := eq_true p435
        replace q435 := eq_true q435
        have ea_ := Option.some.inj (hx427_3.symm.trans hx435_3)
        injection ea_ with ea_ en_ ec_
        subst ea_
        subst ec_
        clear en_
        refine start_ (n := 32) (S := fun w' => True) (ds := []) #[ZF,ZF,ZF,ZF,ZF,ZF,ZF,ZF,ZF,ZF,ZF,ZF,ZF,ZF,ZF,ZF,ZF,ZF,ZF,ZF,ZF,ZF,ZF,ZF,ZF,ZF,ZF,ZF,ZF,ZF,ZF,ZF] (by kernel_rfl) rfl rfl trivial (fun hHeld => ?_); refine with_tabW surmiseref10_LayItems.tab5 surmiseref10_LayItems.bits5 (fun HT_ HW_ => ?_)
        generalize wr.drew = w12 at HB HR427_3 HR429_3 HR430_3 HR435_3 hx427_0 hx427_1 hx427_2 hx427_3 hx429_0 hx429_1 hx429_2 hx429_3 hx430_0 hx430_1 hx430_2 hx430_3 hx435_0 hx435_1 hx435_2 hx435_3 hHeld ⊢
        refine pure_ (i := 0) (N := some 14) (v := ?_) (a' := ?_) #[ZT,ZF,ZF,ZF,ZF,ZF,ZF,ZF,ZF,ZF,ZF,ZF,ZF,ZF,ZF,ZF,ZF,ZF,ZF,ZF,ZF,ZF,ZF,ZF,ZF,ZF,ZF,ZF,ZF,ZF,ZF,ZF] rfl rfl (any_of HT_.out (by kernel_rfl)) (fun _ _ _ h => h) (Or.inl ⟨by rfl, ?_⟩) ?_ ?_
        rotate_left
        ·intro w'
         go_simp
         with_reducible rfl
        rotate_left
        ·simp only [Act.put, List.setIfInBounds_toArray, List.set_cons_zero, List.set_cons_succ, i64_w, i32_w]
         rfl
        refine pure_ (i := 1) (N := some 15) (v := ?_) (a' := ?_) #[ZT,ZT,ZF,ZF,ZF,ZF,ZF,ZF,ZF,ZF,ZF,ZF,ZF,ZF,ZF,ZF,ZF,ZF,ZF,ZF,ZF,ZF,ZF,ZF,ZF,ZF,ZF,ZF,ZF,ZF,ZF,ZF] rfl rfl (any_of HT_.out (by kernel_rfl)) (fun _ _ _ h => h) (Or.inl ⟨by rfl, ?_⟩) ?_ ?_
        rotate_left
        ·intro w'
         go_simp
         with_reducible rfl
        rotate_left
        ·simp only [Act.put, List.setIfInBounds_toArray, List.set_cons_zero, List.set_cons_succ, i64_w, i32_w]
         rfl
        refine pure_ (i := 2) (N := some 16) (v := ?_) (a' := ?_) #[ZT,ZT,ZT,ZF,ZF,ZF,ZF,ZF,ZF,ZF,ZF,ZF,ZF,ZF,ZF,ZF,ZF,ZF,ZF,ZF,ZF,ZF,ZF,ZF,ZF,ZF,ZF,ZF,ZF,ZF,ZF,ZF] rfl rfl (any_of HT_.out (by kernel_rfl)) (fun _ _ _ h => h) (Or.inl ⟨by rfl, ?_⟩) ?_ ?_
        rotate_left
        ·intro w'
         go_simp
         with_reducible rfl
        rotate_left
        ·simp only [Act.put, List.setIfInBounds_toArray, List.set_cons_zero, List.set_cons_succ, i64_w, i32_w]
         rfl
        refine pure_ (i := 8) (N := some 22) (v := ?_) (a' := ?_) #[ZT,ZT,ZT,ZF,ZF,ZF,ZF,ZF,ZT,ZF,ZF,ZF,ZF,ZF,ZF,ZF,ZF,ZF,ZF,ZF,ZF,ZF,ZF,ZF,ZF,ZF,ZF,ZF,ZF,ZF,ZF,ZF] rfl rfl (any_of HT_.out (by kernel_rfl)) (fun _ _ _ h => h) (Or.inl ⟨by rfl, ?_⟩) ?_ ?_
        rotate_left
        ·intro w'
         go_simp
         with_reducible rfl
        rotate_left
        ·simp only [Act.put, List.setIfInBounds_toArray, List.set_cons_zero, List.set_cons_succ, i64_w, i32_w]
         rfl
        refine pure_ (i := 9) (N := some 23) (v := ?_) (a' := ?_) #[ZT,ZT,ZT,ZF,ZF,ZF,ZF,ZF,ZT,ZT,ZF,ZF,ZF,ZF,ZF,ZF,ZF,ZF,ZF,ZF,ZF,ZF,ZF,ZF,ZF,ZF,ZF,ZF,ZF,ZF,ZF,ZF] rfl rfl (any_of HT_.out (by kernel_rfl)) (fun _ _ _ h => h) (Or.inl ⟨by rfl, ?_⟩) ?_ ?_
        rotate_left
        ·intro w'
         go_simp
         with_reducible rfl
        rotate_left
        ·simp only [Act.put, List.setIfInBounds_toArray, List.set_cons_zero, List.set_cons_succ, i64_w, i32_w]
         rfl
        refine pure_ (i := 14) (N := some 28) (v := ?_) (a' := ?_) #[ZT,ZT,ZT,ZF,ZF,ZF,ZF,ZF,ZT,ZT,ZF,ZF,ZF,ZF,ZT,ZF,ZF,ZF,ZF,ZF,ZF,ZF,ZF,ZF,ZF,ZF,ZF,ZF,ZF,ZF,ZF,ZF] rfl rfl (any_of HT_.out (by kernel_rfl)) (fun _ _ _ h => h) (Or.inl ⟨by rfl, ?_⟩) ?_ ?_
        rotate_left
        ·intro w'
         go_simp
         with_reducible rfl
        rotate_left
        ·simp only [Act.put, List.setIfInBounds_toArray, List.set_cons_zero, List.set_cons_succ, i64_w, i32_w]
         rfl
        refine pure_ (i := 15) (N := some 29) (v := ?_) (a' := ?_) #[ZT,ZT,ZT,ZF,ZF,ZF,ZF,ZF,ZT,ZT,ZF,ZF,ZF,ZF,ZT,ZT,ZF,ZF,ZF,ZF,ZF,ZF,ZF,ZF,ZF,ZF,ZF,ZF,ZF,ZF,ZF,ZF] rfl rfl (any_of HT_.out (by kernel_rfl)) (fun _ _ _ h => h) (Or.inl ⟨by rfl, ?_⟩) ?_ ?_
        rotate_left
        ·intro w'
         go_simp
         with_reducible rfl
        rotate_left
        ·simp only [Act.put, List.setIfInBounds_toArray, List.set_cons_zero, List.set_cons_succ, i64_w, i32_w]
         rfl
        refine pure_ (i := 23) (N := some 37) (v := ?_) (a' := ?_) #[ZT,ZT,ZT,ZF,ZF,ZF,ZF,ZF,ZT,ZT,ZF,ZF,ZF,ZF,ZT,ZT,ZF,ZF,ZF,ZF,ZF,ZF,ZF,ZT,ZF,ZF,ZF,ZF,ZF,ZF,ZF,ZF] rfl rfl (any_of HT_.out (by kernel_rfl)) (fun _ _ _ h => h) (Or.inl ⟨by rfl, ?_⟩) ?_ ?_
        rotate_left
        ·intro w'
         go_simp
         with_reducible rfl
        rotate_left
        ·simp only [Act.put, List.setIfInBounds_toArray, List.set_cons_zero, List.set_cons_succ, i64_w, i32_w]
         rfl
        refine pure_ (i := 24) (N := some 38) (v := ?_) (a' := ?_) #[ZT,ZT,ZT,ZF,ZF,ZF,ZF,ZF,ZT,ZT,ZF,ZF,ZF,ZF,ZT,ZT,ZF,ZF,ZF,ZF,ZF,ZF,ZF,ZT,ZT,ZF,ZF,ZF,ZF,ZF,ZF,ZF] rfl rfl (any_of HT_.out (by kernel_rfl)) (fun _ _ _ h => h) (Or.inl ⟨by rfl, ?_⟩) ?_ ?_
        rotate_left
        ·intro w'
         go_simp
         with_reducible rfl
        rotate_left
        ·simp only [Act.put, List.setIfInBounds_toArray, List.set_cons_zero, List.set_cons_succ, i64_w, i32_w]
         rfl
        refine inv_at [3, 4, 5, 6, 7, 10, 11, 12, 13, 16, 17, 18, 19, 20, 21, 22, 25, 26, 27, 28, 29, 30, 31] (fun a0_ b a w' => ∃ (v432 : Value), a = putSel a0_ b [(3, 17, .pointer (some (ad427.add ((x4_1).toNat * 4)))), (4, 18, .pointer (some (ad427.add ((x4_1).toNat * 4)))), (5, 19, .string ((rd_T93 l0 x4_1).f0)), (6, 20, .string t428), (7, 21, .string (x3_1 ++ t428)), (10, 24, .pointer (some (ad427.add ((x4_1).toNat * 4)))), (11, 25, .pointer (some ⟨(ad427.add ((x4_1).toNat * 4)).block, (ad427.add ((x4_1).toNat * 4)).off + 1, none⟩)), (12, 26, .pointer (some ⟨(ad427.add ((x4_1).toNat * 4)).block, (ad427.add ((x4_1).toNat * 4)).off + 1, none⟩)), (13, 27, .int .i64 ((rd_T93 l0 x4_1).f1.f0)), (16, 30, .pointer (some (ad427.add ((x4_1).toNat * 4)))), (17, 31, .pointer (some ⟨(ad427.add ((x4_1).toNat * 4)).block, (ad427.add ((x4_1).toNat * 4)).off + 1, none⟩)), (18, 32, .pointer (some ⟨(ad427.add ((x4_1).toNat * 4)).block, (ad427.add ((x4_1).toNat * 4)).off + 2, none⟩)), (19, 33, .int .i64 ((rd_T93 l0 x4_1).f1.f1)), (20, 34, v432), (21, 35, .string t434), (22, 36, .string ((x3_1 ++ t428) ++ t434)), (25, 39, .pointer (some (ad427.add ((x4_1).toNat * 4)))), (26, 40, .pointer (some ⟨(ad427.add ((x4_1).toNat * 4)).block, (ad427.add ((x4_1).toNat * 4)).off + 1, none⟩)), (27, 41, .pointer (some ⟨(ad427.add ((x4_1).toNat * 4)).block, (ad427.add ((x4_1).toNat * 4)).off + 3, none⟩)), (28, 42, .slice A427_3 ((rd_T93 l0 x4_1).f1.f2).length c427_3), (29, 43, .string t436), (30, 44, .string (((x3_1 ++ t428) ++ t434) ++ t436)), (31, 3, .string (((x3_1 ++ t428) ++ t434) ++ t436))] ∧ (Below w.heap.size w w') ∧ (b 20 = true → Kd.R (Kd.int .i64) 3 w' w.heap.size (fun _ => True) v432 y431)) HT_.out HW_.out (by kernel_rfl) (by kernel_rfl) ?_ ?_ ?_
        ·exact ⟨.bool false, by simp only [putSel, Bool.false_eq_true, if_false], HB.out, fun h_ => absurd h_ (by decide)⟩
        ·skip
         clear HB
         refine steps_cons ?_ ?_
         ·rintro b a w' ⟨v432, ha, Q_HB, Q_HO433⟩ hb_ hon hoff
          refine ⟨_, rfl, fun K hK => ?_⟩
          have e15 : a.tmps[15]? = some (.slice (some ad427) l0.length c0) := by rw [ha]; exact (putSel_off rfl).trans rfl
          have e16 : a.tmps[16]? = some (.int .i64 x4_1) := by rw [ha]; exact (putSel_off rfl).trans rfl
          replace ha := Aside0.mk ha
          have HB := Aside0.mk Q_HB
          have hs0_ : w'.cell? (ad427.add ((x4_1).toNat * 4)) = some (.string ((rd_T93 l0 x4_1).f0)) := ((HB.out.cell (World.block_lt_of_cell? w _ hw427_0)).trans hw427_0)
          have hs1_ : w'.cell? ⟨(ad427.add ((x4_1).toNat * 4)).block, (ad427.add ((x4_1).toNat * 4)).off + 1, none⟩ = some (.int .i64 ((rd_T93 l0 x4_1).f1.f0)) := ((HB.out.cell (World.block_lt_of_cell? w _ hw427_1)).trans hw427_1)
          have hs2_ : w'.cell? ⟨(ad427.add ((x4_1).toNat * 4)).block, (ad427.add ((x4_1).toNat * 4)).off + 2, none⟩ = some (.int .i64 ((rd_T93 l0 x4_1).f1.f1)) := ((HB.out.cell (World.block_lt_of_cell? w _ hw427_2)).trans hw427_2)
          have hs3_ : w'.cell? ⟨(ad427.add ((x4_1).toNat * 4)).block, (ad427.add ((x4_1).toNat * 4)).off + 3, none⟩ = some (.slice A427_3 ((rd_T93 l0 x4_1).f1.f2).length c427_3) := ((HB.out.cell (World.block_lt_of_cell? w _ hw427_3)).trans hw427_3)
          refine value_ (w1 := w') (v := .pointer (some (ad427.add ((x4_1).toNat * 4)))) (by rfl) rfl ?_ ?_
          ·go_simp
           (try simp only [i64_w])
           try rfl
          refine hK.out _ _ ⟨v432, (by rw [ha.out]; exact putSel_upk 0 hb_ rfl rfl rfl), Q_HB, Q_HO433⟩
         refine steps_cons ?_ ?_
         ·rintro b a w' ⟨v432, ha, Q_HB, Q_HO433⟩ hb_ hon hoff
          refine ⟨_, rfl, fun K hK => ?_⟩
          have e17 : a.tmps[17]? = some (.pointer (some (ad427.add ((x4_1).toNat * 4)))) := by rw [ha]; exact putSel_on (e := (3, 17, .pointer (some (ad427.add ((x4_1).toNat * 4))))) 0 rfl rfl (hon 3 (by kernel_rfl)) rfl
          replace ha := Aside0.mk ha
          have HB := Aside0.mk Q_HB
          refine value_ (w1 := w') (v := .pointer (some (ad427.add ((x4_1).toNat * 4)))) (by rfl) rfl ?_ ?_
          ·go_simp
           (try simp only [i64_w])
           try rfl
          refine hK.out _ _ ⟨v432, (by rw [ha.out]; exact putSel_upk 1 hb_ rfl rfl rfl), Q_HB, Q_HO433⟩
         refine steps_cons ?_ ?_
         ·rintro b a w' ⟨v432, ha, Q_HB, Q_HO433⟩ hb_ hon hoff
          refine ⟨_, rfl, fun K hK => ?_⟩
          have e18 : a.tmps[18]? = some (.pointer (some (ad427.add ((x4_1).toNat * 4)))) := by rw [ha]; exact putSel_on (e := (4, 18, .pointer (some (ad427.add ((x4_1).toNat * 4))))) 1 rfl rfl (hon 4 (by kernel_rfl)) rfl
          replace ha := Aside0.mk ha
          have HB := Aside0.mk Q_HB
          have hs0_ : w'.cell? (ad427.add ((x4_1).toNat * 4)) = some (.string ((rd_T93 l0 x4_1).f0)) := ((HB.out.cell (World.block_lt_of_cell? w _ hw427_0)).trans hw427_0)
          have hs1_ : w'.cell? ⟨(ad427.add ((x4_1).toNat * 4)).block, (ad427.add ((x4_1).toNat * 4)).off + 1, none⟩ = some (.int .i64 ((rd_T93 l0 x4_1).f1.f0)) := ((HB.out.cell (World.block_lt_of_cell? w _ hw427_1)).trans hw427_1)
          have hs2_ : w'.cell? ⟨(ad427.add ((x4_1).toNat * 4)).block, (ad427.add ((x4_1).toNat * 4)).off + 2, none⟩ = some (.int .i64 ((rd_T93 l0 x4_1).f1.f1)) := ((HB.out.cell (World.block_lt_of_cell? w _ hw427_2)).trans hw427_2)
          have hs3_ : w'.cell? ⟨(ad427.add ((x4_1).toNat * 4)).block, (ad427.add ((x4_1).toNat * 4)).off + 3, none⟩ = some (.slice A427_3 ((rd_T93 l0 x4_1).f1.f2).length c427_3) := ((HB.out.cell (World.block_lt_of_cell? w _ hw427_3)).trans hw427_3)
          refine value_ (w1 := w') (v := .string ((rd_T93 l0 x4_1).f0)) (by rfl) rfl ?_ ?_
          ·go_simp
           (try simp only [i64_w])
           try rfl
          refine hK.out _ _ ⟨v432, (by rw [ha.out]; exact putSel_upk 2 hb_ rfl rfl rfl), Q_HB, Q_HO433⟩
         refine steps_cons ?_ ?_
         ·rintro b a w' ⟨v432, ha, Q_HB, Q_HO433⟩ hb_ hon hoff
          refine ⟨_, rfl, fun K hK => ?_⟩
          have e19 : a.tmps[19]? = some (.string ((rd_T93 l0 x4_1).f0)) := by rw [ha]; exact putSel_on (e := (5, 19, .string ((rd_T93 l0 x4_1).f0))) 2 rfl rfl (hon 5 (by kernel_rfl)) rfl
          replace ha := Aside0.mk ha
          have HB := Aside0.mk Q_HB
          refine goes_ Try.func51 (by kernel_rfl) rfl #[.string ((rd_T93 l0 x4_1).f0)] (by rfl) rfl rfl (by first | (simp only [List.map_toArray, List.map_cons, List.map_nil, Act.eval, Array.getD_eq_getD_getElem?, Option.getD_some, e19]; done) | (simp only [List.map_toArray, List.map_cons, List.map_nil, Act.eval, Array.getD_eq_getD_getElem?, Option.getD_some, e19]; rfl)) ?_
          with_reducible refine (surmiseref10_Text.calls k1 ((rd_T93 l0 x4_1).f0) t428 _ A6.out).mono ?_
          rintro e w13 ⟨rfl, hb⟩
          refine ⟨_, rfl, ?_⟩
          have n0_ := Aside0.mk (below_step (by repeat (first | (with_reducible first | exact HB.out | apply below_alloc | apply pw_below_drewN | apply below_drew1) | exact HB.out)) hb)
          have z_HO433 := fun (h0_ : b 20 = true) => (show Kd.R (Kd.int .i64) 3 w13 w.heap.size (fun _ => True) v432 y431 from by first | exact (Kd.R_below (by (with_reducible repeat (first | apply Kd.R_alloc | apply Kd.R_drewN | apply Kd.R_drew)); exact (Q_HO433 h0_)) hb) | exact Kd.R_mono (Kd.R_below (by (with_reducible repeat (first | apply Kd.R_alloc | apply Kd.R_drewN | apply Kd.R_drew)); exact (Q_HO433 h0_)) hb) (fun _ h_ => by first | trivial | exact h_ | exact h_.1))
          clear HB
          have HB := n0_
          clear n0_
          (try clear hb)
          (try clear hb2)
          (try clear hk)
          (try clear hi)
          refine hK.out _ _ ⟨v432, (by rw [ha.out]; exact putSel_upk 3 hb_ rfl rfl rfl), (by repeat (first | (with_reducible first | exact HB.out | apply below_alloc | apply pw_below_drewN | apply below_drew1) | exact HB.out)), z_HO433⟩
         refine steps_cons ?_ ?_
         ·rintro b a w' ⟨v432, ha, Q_HB, Q_HO433⟩ hb_ hon hoff
          refine ⟨_, rfl, fun K hK => ?_⟩
          have e14 : a.tmps[14]? = some (.string x3_1) := by rw [ha]; exact (putSel_off rfl).trans rfl
          have e20 : a.tmps[20]? = some (.string t428) := by rw [ha]; exact putSel_on (e := (6, 20, .string t428)) 3 rfl rfl (hon 6 (by kernel_rfl)) rfl
          replace ha := Aside0.mk ha
          have HB := Aside0.mk Q_HB
          refine value_ (w1 := w') (v := .string (x3_1 ++ t428)) (by rfl) rfl ?_ ?_
          ·go_simp
           (try simp only [i64_w])
           try rfl
          refine hK.out _ _ ⟨v432, (by rw [ha.out]; exact putSel_upk 4 hb_ rfl rfl rfl), Q_HB, Q_HO433⟩
         refine steps_cons ?_ ?_
         ·rintro b a w' ⟨v432, ha, Q_HB, Q_HO433⟩ hb_ hon hoff
          refine ⟨_, rfl, fun K hK => ?_⟩
          have e22 : a.tmps[22]? = some (.slice (some ad427) l0.length c0) := by rw [ha]; exact (putSel_off rfl).trans rfl
          have e23 : a.tmps[23]? = some (.int .i64 x4_1) := by rw [ha]; exact (putSel_off rfl).trans rfl
          replace ha := Aside0.mk ha
          have HB := Aside0.mk Q_HB
          have hs4_ : w'.cell? (ad427.add ((x4_1).toNat * 4)) = some (.string ((rd_T93 l0 x4_1).f0)) := ((HB.out.cell (World.block_lt_of_cell? w _ hw429_0)).trans hw429_0)
          have hs5_ : w'.cell? ⟨(ad427.add ((x4_1).toNat * 4)).block, (ad427.add ((x4_1).toNat * 4)).off + 1, none⟩ = some (.int .i64 ((rd_T93 l0 x4_1).f1.f0)) := ((HB.out.cell (World.block_lt_of_cell? w _ hw429_1)).trans hw429_1)
          have hs6_ : w'.cell? ⟨(ad427.add ((x4_1).toNat * 4)).block, (ad427.add ((x4_1).toNat * 4)).off + 2, none⟩ = some (.int .i64 ((rd_T93 l0 x4_1).f1.f1)) := ((HB.out.cell (World.block_lt_of_cell? w _ hw429_2)).trans hw429_2)
          have hs7_ : w'.cell? ⟨(ad427.add ((x4_1).toNat * 4)).block, (ad427.add ((x4_1).toNat * 4)).off + 3, none⟩ = some (.slice A427_3 ((rd_T93 l0 x4_1).f1.f2).length c427_3) := ((HB.out.cell (World.block_lt_of_cell? w _ hw429_3)).trans hw429_3)
          refine value_ (w1 := w') (v := .pointer (some (ad427.add ((x4_1).toNat * 4)))) (by rfl) rfl ?_ ?_
          ·go_simp
           (try simp only [i64_w])
           try rfl
          refine hK.out _ _ ⟨v432, (by rw [ha.out]; exact putSel_upk 5 hb_ rfl rfl rfl), Q_HB, fun h0_ => absurd ((hoff 20 (by kernel_rfl)).symm.trans h0_) (by decide)⟩
         refine steps_cons ?_ ?_
         ·rintro b a w' ⟨v432, ha, Q_HB, Q_HO433⟩ hb_ hon hoff
          refine ⟨_, rfl, fun K hK => ?_⟩
          have e24 : a.tmps[24]? = some (.pointer (some (ad427.add ((x4_1).toNat * 4)))) := by rw [ha]; exact putSel_on (e := (10, 24, .pointer (some (ad427.add ((x4_1).toNat * 4))))) 5 rfl rfl (hon 10 (by kernel_rfl)) rfl
          replace ha := Aside0.mk ha
          have HB := Aside0.mk Q_HB
          refine value_ (w1 := w') (v := .pointer (some ⟨(ad427.add ((x4_1).toNat * 4)).block, (ad427.add ((x4_1).toNat * 4)).off + 1, none⟩)) (by rfl) rfl ?_ ?_
          ·go_simp
           (try simp only [i64_w])
           try rfl
          refine hK.out _ _ ⟨v432, (by rw [ha.out]; exact putSel_upk 6 hb_ rfl rfl rfl), Q_HB, fun h0_ => absurd ((hoff 20 (by kernel_rfl)).symm.trans h0_) (by decide)⟩
         refine steps_cons ?_ ?_
         ·rintro b a w' ⟨v432, ha, Q_HB, Q_HO433⟩ hb_ hon hoff
          refine ⟨_, rfl, fun K hK => ?_⟩
          have e25 : a.tmps[25]? = some (.pointer (some ⟨(ad427.add ((x4_1).toNat * 4)).block, (ad427.add ((x4_1).toNat * 4)).off + 1, none⟩)) := by rw [ha]; exact putSel_on (e := (11, 25, .pointer (some ⟨(ad427.add ((x4_1).toNat * 4)).block, (ad427.add ((x4_1).toNat * 4)).off + 1, none⟩))) 6 rfl rfl (hon 11 (by kernel_rfl)) rfl
          replace ha := Aside0.mk ha
          have HB := Aside0.mk Q_HB
          refine value_ (w1 := w') (v := .pointer (some ⟨(ad427.add ((x4_1).toNat * 4)).block, (ad427.add ((x4_1).toNat * 4)).off + 1, none⟩)) (by rfl) rfl ?_ ?_
          ·go_simp
           (try simp only [i64_w])
           try rfl
          refine hK.out _ _ ⟨v432, (by rw [ha.out]; exact putSel_upk 7 hb_ rfl rfl rfl), Q_HB, fun h0_ => absurd ((hoff 20 (by kernel_rfl)).symm.trans h0_) (by decide)⟩
         refine steps_cons ?_ ?_
         ·rintro b a w' ⟨v432, ha, Q_HB, Q_HO433⟩ hb_ hon hoff
          refine ⟨_, rfl, fun K hK => ?_⟩
          have e26 : a.tmps[26]? = some (.pointer (some ⟨(ad427.add ((x4_1).toNat * 4)).block, (ad427.add ((x4_1).toNat * 4)).off + 1, none⟩)) := by rw [ha]; exact putSel_on (e := (12, 26, .pointer (some ⟨(ad427.add ((x4_1).toNat * 4)).block, (ad427.add ((x4_1).toNat * 4)).off + 1, none⟩))) 7 rfl rfl (hon 12 (by kernel_rfl)) rfl
          replace ha := Aside0.mk ha
          have HB := Aside0.mk Q_HB
          have hs4_ : w'.cell? (ad427.add ((x4_1).toNat * 4)) = some (.string ((rd_T93 l0 x4_1).f0)) := ((HB.out.cell (World.block_lt_of_cell? w _ hw429_0)).trans hw429_0)
          have hs5_ : w'.cell? ⟨(ad427.add ((x4_1).toNat * 4)).block, (ad427.add ((x4_1).toNat * 4)).off + 1, none⟩ = some (.int .i64 ((rd_T93 l0 x4_1).f1.f0)) := ((HB.out.cell (World.block_lt_of_cell? w _ hw429_1)).trans hw429_1)
          have hs6_ : w'.cell? ⟨(ad427.add ((x4_1).toNat * 4)).block, (ad427.add ((x4_1).toNat * 4)).off + 2, none⟩ = some (.int .i64 ((rd_T93 l0 x4_1).f1.f1)) := ((HB.out.cell (World.block_lt_of_cell? w _ hw429_2)).trans hw429_2)
          have hs7_ : w'.cell? ⟨(ad427.add ((x4_1).toNat * 4)).block, (ad427.add ((x4_1).toNat * 4)).off + 3, none⟩ = some (.slice A427_3 ((rd_T93 l0 x4_1).f1.f2).length c427_3) := ((HB.out.cell (World.block_lt_of_cell? w _ hw429_3)).trans hw429_3)
          refine value_ (w1 := w') (v := .int .i64 ((rd_T93 l0 x4_1).f1.f0)) (by rfl) rfl ?_ ?_
          ·go_simp
           (try simp only [i64_w])
           try rfl
          refine hK.out _ _ ⟨v432, (by rw [ha.out]; exact putSel_upk 8 hb_ rfl rfl rfl), Q_HB, fun h0_ => absurd ((hoff 20 (by kernel_rfl)).symm.trans h0_) (by decide)⟩
         refine steps_cons ?_ ?_
         ·rintro b a w' ⟨v432, ha, Q_HB, Q_HO433⟩ hb_ hon hoff
          refine ⟨_, rfl, fun K hK => ?_⟩
          have e28 : a.tmps[28]? = some (.slice (some ad427) l0.length c0) := by rw [ha]; exact (putSel_off rfl).trans rfl
          have e29 : a.tmps[29]? = some (.int .i64 x4_1) := by rw [ha]; exact (putSel_off rfl).trans rfl
          replace ha := Aside0.mk ha
          have HB := Aside0.mk Q_HB
          have hs8_ : w'.cell? (ad427.add ((x4_1).toNat * 4)) = some (.string ((rd_T93 l0 x4_1).f0)) := ((HB.out.cell (World.block_lt_of_cell? w _ hw430_0)).trans hw430_0)
          have hs9_ : w'.cell? ⟨(ad427.add ((x4_1).toNat * 4)).block, (ad427.add ((x4_1).toNat * 4)).off + 1, none⟩ = some (.int .i64 ((rd_T93 l0 x4_1).f1.f0)) := ((HB.out.cell (World.block_lt_of_cell? w _ hw430_1)).trans hw430_1)
          have hs10_ : w'.cell? ⟨(ad427.add ((x4_1).toNat * 4)).block, (ad427.add ((x4_1).toNat * 4)).off + 2, none⟩ = some (.int .i64 ((rd_T93 l0 x4_1).f1.f1)) := ((HB.out.cell (World.block_lt_of_cell? w _ hw430_2)).trans hw430_2)
          have hs11_ : w'.cell? ⟨(ad427.add ((x4_1).toNat * 4)).block, (ad427.add ((x4_1).toNat * 4)).off + 3, none⟩ = some (.slice A427_3 ((rd_T93 l0 x4_1).f1.f2).length c427_3) := ((HB.out.cell (World.block_lt_of_cell? w _ hw430_3)).trans hw430_3)
          refine value_ (w1 := w') (v := .pointer (some (ad427.add ((x4_1).toNat * 4)))) (by rfl) rfl ?_ ?_
          ·go_simp
           (try simp only [i64_w])
           try rfl
          refine hK.out _ _ ⟨v432, (by rw [ha.out]; exact putSel_upk 9 hb_ rfl rfl rfl), Q_HB, fun h0_ => absurd ((hoff 20 (by kernel_rfl)).symm.trans h0_) (by decide)⟩
         refine steps_cons ?_ ?_
         ·rintro b a w' ⟨v432, ha, Q_HB, Q_HO433⟩ hb_ hon hoff
          refine ⟨_, rfl, fun K hK => ?_⟩
          have e30 : a.tmps[30]? = some (.pointer (some (ad427.add ((x4_1).toNat * 4)))) := by rw [ha]; exact putSel_on (e := (16, 30, .pointer (some (ad427.add ((x4_1).toNat * 4))))) 9 rfl rfl (hon 16 (by kernel_rfl)) rfl
          replace ha := Aside0.mk ha
          have HB := Aside0.mk Q_HB
          refine value_ (w1 := w') (v := .pointer (some ⟨(ad427.add ((x4_1).toNat * 4)).block, (ad427.add ((x4_1).toNat * 4)).off + 1, none⟩)) (by rfl) rfl ?_ ?_
          ·go_simp
           (try simp only [i64_w])
           try rfl
          refine hK.out _ _ ⟨v432, (by rw [ha.out]; exact putSel_upk 10 hb_ rfl rfl rfl), Q_HB, fun h0_ => absurd ((hoff 20 (by kernel_rfl)).symm.trans h0_) (by decide)⟩
         refine steps_cons ?_ ?_
         ·rintro b a w' ⟨v432, ha, Q_HB, Q_HO433⟩ hb_ hon hoff
          refine ⟨_, rfl, fun K hK => ?_⟩
          have e31 : a.tmps[31]? = some (.pointer (some ⟨(ad427.add ((x4_1).toNat * 4)).block, (ad427.add ((x4_1).toNat * 4)).off + 1, none⟩)) := by rw [ha]; exact putSel_on (e := (17, 31, .pointer (some ⟨(ad427.add ((x4_1).toNat * 4)).block, (ad427.add ((x4_1).toNat * 4)).off + 1, none⟩))) 10 rfl rfl (hon 17 (by kernel_rfl)) rfl
          replace ha := Aside0.mk ha
          have HB := Aside0.mk Q_HB
          refine value_ (w1 := w') (v := .pointer (some ⟨(ad427.add ((x4_1).toNat * 4)).block, (ad427.add ((x4_1).toNat * 4)).off + 2, none⟩)) (by rfl) rfl ?_ ?_
          ·go_simp
           (try simp only [i64_w])
           try rfl
          refine hK.out _ _ ⟨v432, (by rw [ha.out]; exact putSel_upk 11 hb_ rfl rfl rfl), Q_HB, fun h0_ => absurd ((hoff 20 (by kernel_rfl)).symm.trans h0_) (by decide)⟩
         refine steps_cons ?_ ?_
         ·rintro b a w' ⟨v432, ha, Q_HB, Q_HO433⟩ hb_ hon hoff
          refine ⟨_, rfl, fun K hK => ?_⟩
          have e32 : a.tmps[32]? = some (.pointer (some ⟨(ad427.add ((x4_1).toNat * 4)).block, (ad427.add ((x4_1).toNat * 4)).off + 2, none⟩)) := by rw [ha]; exact putSel_on (e := (18, 32, .pointer (some ⟨(ad427.add ((x4_1).toNat * 4)).block, (ad427.add ((x4_1).toNat * 4)).off + 2, none⟩))) 11 rfl rfl (hon 18 (by kernel_rfl)) rfl
          replace ha := Aside0.mk ha
          have HB := Aside0.mk Q_HB
          have hs8_ : w'.cell? (ad427.add ((x4_1).toNat * 4)) = some (.string ((rd_T93 l0 x4_1).f0)) := ((HB.out.cell (World.block_lt_of_cell? w _ hw430_0)).trans hw430_0)
          have hs9_ : w'.cell? ⟨(ad427.add ((x4_1).toNat * 4)).block, (ad427.add ((x4_1).toNat * 4)).off + 1, none⟩ = some (.int .i64 ((rd_T93 l0 x4_1).f1.f0)) := ((HB.out.cell (World.block_lt_of_cell? w _ hw430_1)).trans hw430_1)
          have hs10_ : w'.cell? ⟨(ad427.add ((x4_1).toNat * 4)).block, (ad427.add ((x4_1).toNat * 4)).off + 2, none⟩ = some (.int .i64 ((rd_T93 l0 x4_1).f1.f1)) := ((HB.out.cell (World.block_lt_of_cell? w _ hw430_2)).trans hw430_2)
          have hs11_ : w'.cell? ⟨(ad427.add ((x4_1).toNat * 4)).block, (ad427.add ((x4_1).toNat * 4)).off + 3, none⟩ = some (.slice A427_3 ((rd_T93 l0 x4_1).f1.f2).length c427_3) := ((HB.out.cell (World.block_lt_of_cell? w _ hw430_3)).trans hw430_3)
          refine value_ (w1 := w') (v := .int .i64 ((rd_T93 l0 x4_1).f1.f1)) (by rfl) rfl ?_ ?_
          ·go_simp
           (try simp only [i64_w])
           try rfl
          refine hK.out _ _ ⟨v432, (by rw [ha.out]; exact putSel_upk 12 hb_ rfl rfl rfl), Q_HB, fun h0_ => absurd ((hoff 20 (by kernel_rfl)).symm.trans h0_) (by decide)⟩
         refine steps_cons ?_ ?_
         ·rintro b a w' ⟨v432, ha, Q_HB, Q_HO433⟩ hb_ hon hoff
          refine ⟨_, rfl, fun K hK => ?_⟩
          have e27 : a.tmps[27]? = some (.int .i64 ((rd_T93 l0 x4_1).f1.f0)) := by rw [ha]; exact putSel_on (e := (13, 27, .int .i64 ((rd_T93 l0 x4_1).f1.f0))) 8 rfl rfl (hon 13 (by kernel_rfl)) rfl
          have e33 : a.tmps[33]? = some (.int .i64 ((rd_T93 l0 x4_1).f1.f1)) := by rw [ha]; exact putSel_on (e := (19, 33, .int .i64 ((rd_T93 l0 x4_1).f1.f1))) 12 rfl rfl (hon 19 (by kernel_rfl)) rfl
          replace ha := Aside0.mk ha
          have HB := Aside0.mk Q_HB
          refine Kd.R_lit_step (Kd.int .i64) _ 3 ?hg (N := 34) ?hd (xs := ([(rd_T93 l0 x4_1).f1.f0, (rd_T93 l0 x4_1).f1.f1] : List Int)) (inner := [.int .i64 ((rd_T93 l0 x4_1).f1.f0), .int .i64 ((rd_T93 l0 x4_1).f1.f1)]) (ok := fun _ => True) (okp := fun _ => True) ?hr ?hp (fun _ hk => hk) trivial (Below.refl _ _) (Nat.le_refl _) (by simp) ?_; (case hd => rfl); (case hg => rfl); (case hr => first | (go_simp; done) | (go_simp; rfl)); (case hp => exact (Reps.one (show Kd.M (Kd.int .i64) _ _ _ ((rd_T93 l0 x4_1).f1.f0) [.int .i64 ((rd_T93 l0 x4_1).f1.f0)] from rfl) (Reps.one (show Kd.M (Kd.int .i64) _ _ _ ((rd_T93 l0 x4_1).f1.f1) [.int .i64 ((rd_T93 l0 x4_1).f1.f1)] from rfl) (Reps.none _ _))))
          intro v432 w13 ho14 hb hg_ hnew_
          clear hg_ hnew_
          (first | rw [← Ny431.out] at ho14 | (simp only [Int.reduceToNat] at ho14; rw [← Ny431.out] at ho14))
          have n0_ := Aside0.mk (Kd.R_lower ho14 (below_size (by repeat (first | (with_reducible first | exact HB.out | apply below_alloc | apply pw_below_drewN | apply below_drew1) | exact HB.out))))
          have n1_ := Aside0.mk (below_step (by repeat (first | (with_reducible first | exact HB.out | apply below_alloc | apply pw_below_drewN | apply below_drew1) | exact HB.out)) hb)
          clear HB
          have HO433 := n0_
          have HB := n1_
          clear n0_ n1_
          clear hb ho14
          refine hK.out _ _ ⟨v432, (by rw [ha.out]; exact putSel_upk 13 hb_ rfl rfl rfl), (by repeat (first | (with_reducible first | exact HB.out | apply below_alloc | apply pw_below_drewN | apply below_drew1) | exact HB.out)), fun _ => (by (with_reducible repeat (first | apply Kd.R_alloc | apply Kd.R_drewN | apply Kd.R_drew)); exact HO433.out)⟩
         refine steps_cons ?_ ?_
         ·rintro b a w' ⟨v432, ha, Q_HB, Q_HO433⟩ hb_ hon hoff
          refine ⟨_, rfl, fun K hK => ?_⟩
          have e34 : a.tmps[34]? = some (v432) := by rw [ha]; exact putSel_on (e := (20, 34, v432)) 13 rfl rfl (hon 20 (by kernel_rfl)) rfl
          replace ha := Aside0.mk ha
          have HB := Aside0.mk Q_HB
          have HO433 := Aside0.mk (Q_HO433 (hon 20 (by kernel_rfl)))
          obtain ⟨Ao17, co17, eo17⟩ := Kd.R_slice HO433.out
          (first | subst eo17 | (injection eo17 with f1_ f2_ f3_; have f4_ := f1_.symm; have f5_ := f3_.symm; clear f1_ f2_ f3_; subst f4_; subst f5_))
          refine goes_ Try.func50 (by kernel_rfl) rfl #[.slice Ao17 y431.length co17] (by rfl) rfl rfl (by first | (simp only [List.map_toArray, List.map_cons, List.map_nil, Act.eval, Array.getD_eq_getD_getElem?, Option.getD_some, e34]; done) | (simp only [List.map_toArray, List.map_cons, List.map_nil, Act.eval, Array.getD_eq_getD_getElem?, Option.getD_some, e34]; rfl)) ?_
          with_reducible refine (surmiseref10_Numbers.calls k1 _ _ y431 t434 _ ?side1 ?side2 A8.out).mono ?_
          (case side1 => repeat (first | exact (Kd.R_reads' HO433.out).2.2 | (with_reducible refine Kd.C_alloc ?_ _) | (with_reducible refine Kd.C_drewN ?_ _) | (with_reducible refine Kd.C_drew ?_)))
          (case side2 => exact (Kd.R_reads' HO433.out).2.1)
          rintro e w18 ⟨rfl, hb⟩
          refine ⟨_, rfl, ?_⟩
          have n0_ := Aside0.mk (Kd.R_below (by (with_reducible repeat (first | apply Kd.R_alloc | apply Kd.R_drewN | apply Kd.R_drew)); exact HO433.out) hb)
          have n1_ := Aside0.mk (below_step (by repeat (first | (with_reducible first | exact HB.out | apply below_alloc | apply pw_below_drewN | apply below_drew1) | exact HB.out)) hb)
          clear HO433
          clear HB
          have HO433 := n0_
          have HB := n1_
          clear n0_ n1_
          (try clear hb)
          (try clear hb2)
          (try clear hk)
          (try clear hi)
          refine hK.out _ _ ⟨.slice Ao17 y431.length co17, (by rw [ha.out]; exact putSel_upk 14 hb_ rfl rfl rfl), (by repeat (first | (with_reducible first | exact HB.out | apply below_alloc | apply pw_below_drewN | apply below_drew1) | exact HB.out)), fun _ => (by (with_reducible repeat (first | apply Kd.R_alloc | apply Kd.R_drewN | apply Kd.R_drew)); exact HO433.out)⟩
         refine steps_cons ?_ ?_
         ·rintro b a w' ⟨v432, ha, Q_HB, Q_HO433⟩ hb_ hon hoff
          refine ⟨_, rfl, fun K hK => ?_⟩
          have e21 : a.tmps[21]? = some (.string (x3_1 ++ t428)) := by rw [ha]; exact putSel_on (e := (7, 21, .string (x3_1 ++ t428))) 4 rfl rfl (hon 7 (by kernel_rfl)) rfl
          have e35 : a.tmps[35]? = some (.string t434) := by rw [ha]; exact putSel_on (e := (21, 35, .string t434)) 14 rfl rfl (hon 21 (by kernel_rfl)) rfl
          replace ha := Aside0.mk ha
          have HB := Aside0.mk Q_HB
          have HO433 := Aside0.mk (Q_HO433 (hon 20 (by kernel_rfl)))
          refine value_ (w1 := w') (v := .string ((x3_1 ++ t428) ++ t434)) (by rfl) rfl ?_ ?_
          ·go_simp
           (try simp only [i64_w])
           try rfl
          refine hK.out _ _ ⟨v432, (by rw [ha.out]; exact putSel_upk 15 hb_ rfl rfl rfl), Q_HB, Q_HO433⟩
         refine steps_cons ?_ ?_
         ·rintro b a w' ⟨v432, ha, Q_HB, Q_HO433⟩ hb_ hon hoff
          refine ⟨_, rfl, fun K hK => ?_⟩
          have e37 : a.tmps[37]? = some (.slice (some ad427) l0.length c0) := by rw [ha]; exact (putSel_off rfl).trans rfl
          have e38 : a.tmps[38]? = some (.int .i64 x4_1) := by rw [ha]; exact (putSel_off rfl).trans rfl
          replace ha := Aside0.mk ha
          have HB := Aside0.mk Q_HB
          have hs12_ : w'.cell? (ad427.add ((x4_1).toNat * 4)) = some (.string ((rd_T93 l0 x4_1).f0)) := ((HB.out.cell (World.block_lt_of_cell? w _ hw435_0)).trans hw435_0)
          have hs13_ : w'.cell? ⟨(ad427.add ((x4_1).toNat * 4)).block, (ad427.add ((x4_1).toNat * 4)).off + 1, none⟩ = some (.int .i64 ((rd_T93 l0 x4_1).f1.f0)) := ((HB.out.cell (World.block_lt_of_cell? w _ hw435_1)).trans hw435_1)
          have hs14_ : w'.cell? ⟨(ad427.add ((x4_1).toNat * 4)).block, (ad427.add ((x4_1).toNat * 4)).off + 2, none⟩ = some (.int .i64 ((rd_T93 l0 x4_1).f1.f1)) := ((HB.out.cell (World.block_lt_of_cell? w _ hw435_2)).trans hw435_2)
          have hs15_ : w'.cell? ⟨(ad427.add ((x4_1).toNat * 4)).block, (ad427.add ((x4_1).toNat * 4)).off + 3, none⟩ = some (.slice A427_3 ((rd_T93 l0 x4_1).f1.f2).length c427_3) := ((HB.out.cell (World.block_lt_of_cell? w _ hw435_3)).trans hw435_3)
          refine value_ (w1 := w') (v := .pointer (some (ad427.add ((x4_1).toNat * 4)))) (by rfl) rfl ?_ ?_
          ·go_simp
           (try simp only [i64_w])
           try rfl
          refine hK.out _ _ ⟨v432, (by rw [ha.out]; exact putSel_upk 16 hb_ rfl rfl rfl), Q_HB, Q_HO433⟩
         refine steps_cons ?_ ?_
         ·rintro b a w' ⟨v432, ha, Q_HB, Q_HO433⟩ hb_ hon hoff
          refine ⟨_, rfl, fun K hK => ?_⟩
          have e39 : a.tmps[39]? = some (.pointer (some (ad427.add ((x4_1).toNat * 4)))) := by rw [ha]; exact putSel_on (e := (25, 39, .pointer (some (ad427.add ((x4_1).toNat * 4))))) 16 rfl rfl (hon 25 (by kernel_rfl)) rfl
          replace ha := Aside0.mk ha
          have HB := Aside0.mk Q_HB
          refine value_ (w1 := w') (v := .pointer (some ⟨(ad427.add ((x4_1).toNat * 4)).block, (ad427.add ((x4_1).toNat * 4)).off + 1, none⟩)) (by rfl) rfl ?_ ?_
          ·go_simp
           (try simp only [i64_w])
           try rfl
          refine hK.out _ _ ⟨v432, (by rw [ha.out]; exact putSel_upk 17 hb_ rfl rfl rfl), Q_HB, Q_HO433⟩
         refine steps_cons ?_ ?_
         ·rintro b a w' ⟨v432, ha, Q_HB, Q_HO433⟩ hb_ hon hoff
          refine ⟨_, rfl, fun K hK => ?_⟩
          have e40 : a.tmps[40]? = some (.pointer (some ⟨(ad427.add ((x4_1).toNat * 4)).block, (ad427.add ((x4_1).toNat * 4)).off + 1, none⟩)) := by rw [ha]; exact putSel_on (e := (26, 40, .pointer (some ⟨(ad427.add ((x4_1).toNat * 4)).block, (ad427.add ((x4_1).toNat * 4)).off + 1, none⟩))) 17 rfl rfl (hon 26 (by kernel_rfl)) rfl
          replace ha := Aside0.mk ha
          have HB := Aside0.mk Q_HB
          refine value_ (w1 := w') (v := .pointer (some ⟨(ad427.add ((x4_1).toNat * 4)).block, (ad427.add ((x4_1).toNat * 4)).off + 3, none⟩)) (by rfl) rfl ?_ ?_
          ·go_simp
           (try simp only [i64_w])
           try rfl
          refine hK.out _ _ ⟨v432, (by rw [ha.out]; exact putSel_upk 18 hb_ rfl rfl rfl), Q_HB, Q_HO433⟩
         refine steps_cons ?_ ?_
         ·rintro b a w' ⟨v432, ha, Q_HB, Q_HO433⟩ hb_ hon hoff
          refine ⟨_, rfl, fun K hK => ?_⟩
          have e41 : a.tmps[41]? = some (.pointer (some ⟨(ad427.add ((x4_1).toNat * 4)).block, (ad427.add ((x4_1).toNat * 4)).off + 3, none⟩)) := by rw [ha]; exact putSel_on (e := (27, 41, .pointer (some ⟨(ad427.add ((x4_1).toNat * 4)).block, (ad427.add ((x4_1).toNat * 4)).off + 3, none⟩))) 18 rfl rfl (hon 27 (by kernel_rfl)) rfl
          replace ha := Aside0.mk ha
          have HB := Aside0.mk Q_HB
          have hs12_ : w'.cell? (ad427.add ((x4_1).toNat * 4)) = some (.string ((rd_T93 l0 x4_1).f0)) := ((HB.out.cell (World.block_lt_of_cell? w _ hw435_0)).trans hw435_0)
          have hs13_ : w'.cell? ⟨(ad427.add ((x4_1).toNat * 4)).block, (ad427.add ((x4_1).toNat * 4)).off + 1, none⟩ = some (.int .i64 ((rd_T93 l0 x4_1).f1.f0)) := ((HB.out.cell (World.block_lt_of_cell? w _ hw435_1)).trans hw435_1)
          have hs14_ : w'.cell? ⟨(ad427.add ((x4_1).toNat * 4)).block, (ad427.add ((x4_1).toNat * 4)).off + 2, none⟩ = some (.int .i64 ((rd_T93 l0 x4_1).f1.f1)) := ((HB.out.cell (World.block_lt_of_cell? w _ hw435_2)).trans hw435_2)
          have hs15_ : w'.cell? ⟨(ad427.add ((x4_1).toNat * 4)).block, (ad427.add ((x4_1).toNat * 4)).off + 3, none⟩ = some (.slice A427_3 ((rd_T93 l0 x4_1).f1.f2).length c427_3) := ((HB.out.cell (World.block_lt_of_cell? w _ hw435_3)).trans hw435_3)
          refine value_ (w1 := w') (v := .slice A427_3 ((rd_T93 l0 x4_1).f1.f2).length c427_3) (by rfl) rfl ?_ ?_
          ·go_simp
           (try simp only [i64_w])
           try rfl
          refine hK.out _ _ ⟨v432, (by rw [ha.out]; exact putSel_upk 19 hb_ rfl rfl rfl), Q_HB, Q_HO433⟩
         refine steps_cons ?_ ?_
         ·rintro b a w' ⟨v432, ha, Q_HB, Q_HO433⟩ hb_ hon hoff
          refine ⟨_, rfl, fun K hK => ?_⟩
          have e42 : a.tmps[42]? = some (.slice A427_3 ((rd_T93 l0 x4_1).f1.f2).length c427_3) := by rw [ha]; exact putSel_on (e := (28, 42, .slice A427_3 ((rd_T93 l0 x4_1).f1.f2).length c427_3)) 19 rfl rfl (hon 28 (by kernel_rfl)) rfl
          replace ha := Aside0.mk ha
          have HB := Aside0.mk Q_HB
          have HO433 := Aside0.mk (Q_HO433 (hon 20 (by kernel_rfl)))
          refine goes_ Try.func53 (by kernel_rfl) rfl #[.slice A427_3 ((rd_T93 l0 x4_1).f1.f2).length c427_3] (by rfl) rfl rfl (by first | (simp only [List.map_toArray, List.map_cons, List.map_nil, Act.eval, Array.getD_eq_getD_getElem?, Option.getD_some, e42]; done) | (simp only [List.map_toArray, List.map_cons, List.map_nil, Act.eval, Array.getD_eq_getD_getElem?, Option.getD_some, e42]; rfl)) ?_
          with_reducible refine (surmiseref10_list.calls k1 _ _ ((rd_T93 l0 x4_1).f1.f2) t436 _ ?side1 ?side2 A10.out).mono ?_
          (case side1 => repeat (first | exact (Kd.C_below HR435_3.out HB.out) | (with_reducible refine Kd.C_alloc ?_ _) | (with_reducible refine Kd.C_drewN ?_ _) | (with_reducible refine Kd.C_drew ?_)))
          (case side2 => exact HC435_3.out)
          rintro e w19 ⟨rfl, hb⟩
          refine ⟨_, rfl, ?_⟩
          have n0_ := Aside0.mk (Kd.R_below (by (with_reducible repeat (first | apply Kd.R_alloc | apply Kd.R_drewN | apply Kd.R_drew)); exact HO433.out) hb)
          have n1_ := Aside0.mk (below_step (by repeat (first | (with_reducible first | exact HB.out | apply below_alloc | apply pw_below_drewN | apply below_drew1) | exact HB.out)) hb)
          clear HO433
          clear HB
          have HO433 := n0_
          have HB := n1_
          clear n0_ n1_
          (try clear hb)
          (try clear hb2)
          (try clear hk)
          (try clear hi)
          refine hK.out _ _ ⟨v432, (by rw [ha.out]; exact putSel_upk 20 hb_ rfl rfl rfl), (by repeat (first | (with_reducible first | exact HB.out | apply below_alloc | apply pw_below_drewN | apply below_drew1) | exact HB.out)), fun _ => (by (with_reducible repeat (first | apply Kd.R_alloc | apply Kd.R_drewN | apply Kd.R_drew)); exact HO433.out)⟩
         refine steps_cons ?_ ?_
         ·rintro b a w' ⟨v432, ha, Q_HB, Q_HO433⟩ hb_ hon hoff
          refine ⟨_, rfl, fun K hK => ?_⟩
          have e36 : a.tmps[36]? = some (.string ((x3_1 ++ t428) ++ t434)) := by rw [ha]; exact putSel_on (e := (22, 36, .string ((x3_1 ++ t428) ++ t434))) 15 rfl rfl (hon 22 (by kernel_rfl)) rfl
          have e43 : a.tmps[43]? = some (.string t436) := by rw [ha]; exact putSel_on (e := (29, 43, .string t436)) 20 rfl rfl (hon 29 (by kernel_rfl)) rfl
          replace ha := Aside0.mk ha
          have HB := Aside0.mk Q_HB
          have HO433 := Aside0.mk (Q_HO433 (hon 20 (by kernel_rfl)))
          refine value_ (w1 := w') (v := .string (((x3_1 ++ t428) ++ t434) ++ t436)) (by rfl) rfl ?_ ?_
          ·go_simp
           (try simp only [i64_w])
           try rfl
          refine hK.out _ _ ⟨v432, (by rw [ha.out]; exact putSel_upk 21 hb_ rfl rfl rfl), Q_HB, Q_HO433⟩
         refine steps_cons ?_ ?_
         ·rintro b a w' ⟨v432, ha, Q_HB, Q_HO433⟩ hb_ hon hoff
          refine ⟨_, rfl, fun K hK => ?_⟩
          have e44 : a.tmps[44]? = some (.string (((x3_1 ++ t428) ++ t434) ++ t436)) := by rw [ha]; exact putSel_on (e := (30, 44, .string (((x3_1 ++ t428) ++ t434) ++ t436))) 21 rfl rfl (hon 30 (by kernel_rfl)) rfl
          replace ha := Aside0.mk ha
          have HB := Aside0.mk Q_HB
          have HO433 := Aside0.mk (Q_HO433 (hon 20 (by kernel_rfl)))
          refine value_ (w1 := w') (v := .string (((x3_1 ++ t428) ++ t434) ++ t436)) (by rfl) rfl ?_ ?_
          ·go_simp
           (try simp only [i64_w])
           try rfl
          refine hK.out _ _ ⟨v432, (by rw [ha.out]; exact putSel_upk 22 hb_ rfl rfl rfl), Q_HB, Q_HO433⟩
         exact steps_nil
        rintro b a w19 hall ⟨v432, ha, Q_HB, Q_HO433⟩
        clear HB
        have hb3_ := hall 3 (by kernel_rfl)
        have hb4_ := hall 4 (by kernel_rfl)
        have hb5_ := hall 5 (by kernel_rfl)
        have hb6_ := hall 6 (by kernel_rfl)
        have hb7_ := hall 7 (by kernel_rfl)
        have hb10_ := hall 10 (by kernel_rfl)
        have hb11_ := hall 11 (by kernel_rfl)
        have hb12_ := hall 12 (by kernel_rfl)
        have hb13_ := hall 13 (by kernel_rfl)
        have hb16_ := hall 16 (by kernel_rfl)
        have hb17_ := hall 17 (by kernel_rfl)
        have hb18_ := hall 18 (by kernel_rfl)
        have hb19_ := hall 19 (by kernel_rfl)
        have hb20_ := hall 20 (by kernel_rfl)
        have hb21_ := hall 21 (by kernel_rfl)
        have hb22_ := hall 22 (by kernel_rfl)
        have hb25_ := hall 25 (by kernel_rfl)
        have hb26_ := hall 26 (by kernel_rfl)
        have hb27_ := hall 27 (by kernel_rfl)
        have hb28_ := hall 28 (by kernel_rfl)
        have hb29_ := hall 29 (by kernel_rfl)
        have hb30_ := hall 30 (by kernel_rfl)
        have hb31_ := hall 31 (by kernel_rfl)
        subst ha
        simp only [putSel, hb3_, hb4_, hb5_, hb6_, hb7_, hb10_, hb11_, hb12_, hb13_, hb16_, hb17_, hb18_, hb19_, hb20_, hb21_, hb22_, hb25_, hb26_, hb27_, hb28_, hb29_, hb30_, hb31_, if_true, Act.put, List.setIfInBounds_toArray, List.set_cons_zero, List.set_cons_succ]
        have HB := Aside0.mk Q_HB
        clear Q_HB
        have HO433 := Aside0.mk (Q_HO433 hb20_)
        clear Q_HO433
        clear hall hb3_ hb4_ hb5_ hb6_ hb7_ hb10_ hb11_ hb12_ hb13_ hb16_ hb17_ hb18_ hb19_ hb20_ hb21_ hb22_ hb25_ hb26_ hb27_ hb28_ hb29_ hb30_ hb31_
        try go_wp2
        go_roundg k1
        case measure => have := HK1.out; omega
        case rel => exact ⟨(((x3_1 ++ t428) ++ t434) ++ t436), (wrap64 (x4_1 + 1)), (by first | rfl | (simp; done) | (simp [*]; done)), (by first | rfl | (simp; done) | (simp [*]; done)), H', ⟨by have := HK1.out; omega⟩, ⟨by repeat (first | (with_reducible first | exact HB.out | apply below_alloc | apply pw_below_drewN | apply below_drew1) | exact HB.out)⟩⟩
       ·rw [if_neg c11] at H
        exact absurd H (by simp)
      ·rw [if_neg c9] at H
       exact absurd H (by simp)
     ·rw [if_neg c7] at H
      exact absurd H (by simp)
    ·rw [if_neg c5] at H
     exact absurd H (by simp)
   ·rw [if_neg c4] at H
    have c4b0 : decide (x4_1 < (l0.length : Int)) = false := decide_eq_false c4
    clear c4
    obtain rfl := Option.some.inj H
    go_wp2
    go_ret
    exact ⟨by first | rfl | (simp [errW_none, errW_some] <;> rfl) | (simp [*, errW_none, errW_some] <;> rfl), by repeat (first | (with_reducible first | exact HB.out | apply below_alloc | apply pw_below_drewN | apply below_drew1) | exact HB.out)⟩
end Go.Proofs.Ytbfehjncllkogaa.Q
