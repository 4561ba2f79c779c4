/- Texts of this session laid together (shrink.py): what the claim's law rests on. -/
import Derived.Below
import Derived.Deep.Draws
import Derived.Deep.AppendLies
import Derived.Maps.AppendAt
import Derived.OwnWalk
import Derived.Laws.BytesArg
import Derived.Laws.MakeOwn
import Derived.Laws.OwnMore
import Derived.Deep.OwnRows
import Derived.Tactics
import Derived.Lib.ConvBytes
import Derived.Laws.Slices
import Derived.WalkKit
import Derived.KernelRfl
import Derived.RowKit3
import Derived.Deep.LoopGhost
import Derived.Deep.QuietTactic
import Derived.BigQuiet
import Derived.WideLaws
import Derived.Deep.DeepCutAuto
import Derived.Deep.CutBlock
import Derived.Deep.RegionHeld3
import Derived.Laws.Rows
import Derived.Lib.AppendStr
import Derived.ArgAppend
import Derived.Laws.IdiomCopy
import Derived.RowKit
import Derived.OrdersHeld
import Derived.Laws.BitsLemmas
import Derived.Laws.StructEq
import Derived.Test.YtepipnpfggnadaaGreatProg
import Derived.WalkMore
import Derived.Lib.Strings
import Derived.ChangeArms
import Derived.Deep.Slices
import Derived.SizedLaws
import Derived.Test.YtepipnpfggnadaaGreatTFramesSamei
set_option linter.unusedVariables false
set_option linter.unusedSimpArgs false
set_option maxRecDepth 100000
set_option maxHeartbeats 8000000
open Bool renaming true → O, false → X
open List renaming setIfInBounds_toArray → Ze
open List renaming set_cons_zero → Zf
open List renaming set_cons_succ → Zg
open List renaming map_toArray → Zh
open Option renaming bind_eq_some_iff → Zi
open Go.World renaming block_lt_of_cell? → Zj
open Bool renaming eq_false_iff → Zk
open List renaming length_append → Zl
namespace Go.Proofs.YtepipnpfggnadaaGreat.Q
open Go.RowKit Go.Proofs.YtepipnpfggnadaaGreatW.PrintWords Go.Proofs.YtepipnpfggnadaaGreatW.PrintLast Go.Proofs.YtepipnpfggnadaaGreatW.PrintMore
attribute [local go_sem] xh xg xm xn yT yU xe xd
def zU.f (k : Nat) (a0_0 : Int) (a0_1 : Int) (a0_2 : Int) (a0_3 : Int) (a0_4 : Int) (l0_5 : List ByteArray) (l0_6 : List (S52)) (l0_7 : List (S46)) (l0_8 : List (S86)) (l0_9 : List (S77)) (a1_0 : Int) (a1_1 : Int) (a1_2 : Int) (a1_3 : Int) (a1_4 : Int) (l1_5 : List ByteArray) (l1_6 : List (S52)) (l1_7 : List (S46)) (l1_8 : List (S86)) (l1_9 : List (S77)) : Option (Bool) := (yj.f).bind fun t752 => (if t752 = true then ((zH.f k a0_0 a0_1 a0_2 a0_3 a0_4 l0_5 l0_6 l0_7 l0_8 l0_9 a1_0 a1_1 a1_2 a1_3 a1_4 l1_5 l1_6 l1_7 l1_8 l1_9).bind fun t753 => ((yi.f k a0_0 a0_1 a0_2 a0_3 a0_4 l0_5 l0_6 l0_7 l0_8 l0_9 a1_0 a1_1 a1_2 a1_3 a1_4 l1_5 l1_6 l1_7 l1_8 l1_9).bind fun t754 => (if (t753 == t754) = true then ((zH.f k a0_0 a0_1 a0_2 a0_3 a0_4 l0_5 l0_6 l0_7 l0_8 l0_9 a0_0 a0_1 a0_2 a0_3 a0_4 l0_5 l0_6 l0_7 l0_8 l0_9).bind fun t755 => (if t755 = true then ((zH.f k a1_0 a1_1 a1_2 a1_3 a1_4 l1_5 l1_6 l1_7 l1_8 l1_9 a0_0 a0_1 a0_2 a0_3 a0_4 l0_5 l0_6 l0_7 l0_8 l0_9).bind fun t756 => ((zH.f k a0_0 a0_1 a0_2 a0_3 a0_4 l0_5 l0_6 l0_7 l0_8 l0_9 a1_0 a1_1 a1_2 a1_3 a1_4 l1_5 l1_6 l1_7 l1_8 l1_9).bind fun t757 => (some (t756 == t757)))) else (some false))) else (some false)))) else (some false))
def zU.T1 : Bool × List (List Nat × List Nat) := (true, [([], []), ([0, 0], [0]), ([1], [1]), ([1], [1]), ([2, 3, 1, 1], [1, 2, 3]), ([1], [1]), ([1], [1]), ([5, 6, 4, 1], [1, 5, 6]), ([4, 7, 1], [1, 4, 7]), ([1, 8], [1, 8]), ([9, 7], [9]), ([10], [10]), ([10], [10]), ([11, 12, 10, 10], [10, 11, 12]), ([10, 13], [10, 13]), ([14, 13], [14]), ([15], [15]), ([15], [15]), ([16, 17, 15, 15], [15, 16, 17]), ([15], [15]), ([15], [15]), ([19, 20, 18, 15], [15, 19, 20]), ([18, 21, 15], [15, 18, 21]), ([15, 22], [15, 22]), ([23, 21, 0, 1, 2, 3, 4, 5, 6, 7, 8, 9, 10, 11, 12, 13, 14, 15, 16, 17, 18, 19, 20, 21, 22, 23], [23])])
def zU.B1 : List Nat := [0, 1, 3, 3, 15, 3, 3, 127, 255, 511, 1023, 2047, 2047, 8191, 16383, 32767, 65535, 65535, 262143, 65535, 65535, 2097151, 4194303, 8388607, 16777215]
theorem zU.tab1 : yR .any (qS Tryz.f5 1) = zU.T1 := by kernel_rfl
theorem zU.bits1 : xt zU.T1.2 zU.B1 = true := by kernel_rfl
theorem zU.calls (k : Nat) (a0_0 : Int) (a0_1 : Int) (a0_2 : Int) (a0_3 : Int) (a0_4 : Int) (A0_5 : Option Addr) (c0_5 : Nat) (l0_5 : List ByteArray) (A0_6 : Option Addr) (c0_6 : Nat) (l0_6 : List (S52)) (A0_7 : Option Addr) (c0_7 : Nat) (l0_7 : List (S46)) (A0_8 : Option Addr) (c0_8 : Nat) (l0_8 : List (S86)) (A0_9 : Option Addr) (c0_9 : Nat) (l0_9 : List (S77)) (a1_0 : Int) (a1_1 : Int) (a1_2 : Int) (a1_3 : Int) (a1_4 : Int) (A1_5 : Option Addr) (c1_5 : Nat) (l1_5 : List ByteArray) (A1_6 : Option Addr) (c1_6 : Nat) (l1_6 : List (S52)) (A1_7 : Option Addr) (c1_7 : Nat) (l1_7 : List (S46)) (A1_8 : Option Addr) (c1_8 : Nat) (l1_8 : List (S86)) (A1_9 : Option Addr) (c1_9 : Nat) (l1_9 : List (S77)) (r : Bool) (w : World) (hr0_5 : Kd.C Kd.string w A0_5 l0_5.length l0_5) (hc0_5 : l0_5.length ≤ c0_5) (hr0_6 : Kd.C k52 w A0_6 l0_6.length l0_6) (hc0_6 : l0_6.length ≤ c0_6) (hr0_7 : Kd.C k46 w A0_7 l0_7.length l0_7) (hc0_7 : l0_7.length ≤ c0_7) (hr0_8 : Kd.C k86 w A0_8 l0_8.length l0_8) (hc0_8 : l0_8.length ≤ c0_8) (hr0_9 : Kd.C k77 w A0_9 l0_9.length l0_9) (hc0_9 : l0_9.length ≤ c0_9) (hr1_5 : Kd.C Kd.string w A1_5 l1_5.length l1_5) (hc1_5 : l1_5.length ≤ c1_5) (hr1_6 : Kd.C k52 w A1_6 l1_6.length l1_6) (hc1_6 : l1_6.length ≤ c1_6) (hr1_7 : Kd.C k46 w A1_7 l1_7.length l1_7) (hc1_7 : l1_7.length ≤ c1_7) (hr1_8 : Kd.C k86 w A1_8 l1_8.length l1_8) (hc1_8 : l1_8.length ≤ c1_8) (hr1_9 : Kd.C k77 w A1_9 l1_9.length l1_9) (hc1_9 : l1_9.length ≤ c1_9) (h : zU.f k a0_0 a0_1 a0_2 a0_3 a0_4 l0_5 l0_6 l0_7 l0_8 l0_9 a1_0 a1_1 a1_2 a1_3 a1_4 l1_5 l1_6 l1_7 l1_8 l1_9 = some r) :
  Calls Tryz.prog 5 #[.agg #[.int .i64 a0_0, .int .i64 a0_1, .int .i64 a0_2, .int .i64 a0_3, .int .i64 a0_4, .slice A0_5 l0_5.length c0_5, .slice A0_6 l0_6.length c0_6, .slice A0_7 l0_7.length c0_7, .slice A0_8 l0_8.length c0_8, .slice A0_9 l0_9.length c0_9], .agg #[.int .i64 a1_0, .int .i64 a1_1, .int .i64 a1_2, .int .i64 a1_3, .int .i64 a1_4, .slice A1_5 l1_5.length c1_5, .slice A1_6 l1_6.length c1_6, .slice A1_7 l1_7.length c1_7, .slice A1_8 l1_8.length c1_8, .slice A1_9 l1_9.length c1_9]] w fun e w' => e = .returned (.bool r) ∧ Below w.heap.size w w' := by
 have hu28 := Tryz.underlying28
 have HR0_5 := zc.mk hr0_5
 have HC0_5 := zc.mk hc0_5
 clear hr0_5 hc0_5
 have HR0_6 := zc.mk hr0_6
 have HC0_6 := zc.mk hc0_6
 clear hr0_6 hc0_6
 have HR0_7 := zc.mk hr0_7
 have HC0_7 := zc.mk hc0_7
 clear hr0_7 hc0_7
 have HR0_8 := zc.mk hr0_8
 have HC0_8 := zc.mk hc0_8
 clear hr0_8 hc0_8
 have HR0_9 := zc.mk hr0_9
 have HC0_9 := zc.mk hc0_9
 clear hr0_9 hc0_9
 have HR1_5 := zc.mk hr1_5
 have HC1_5 := zc.mk hc1_5
 clear hr1_5 hc1_5
 have HR1_6 := zc.mk hr1_6
 have HC1_6 := zc.mk hc1_6
 clear hr1_6 hc1_6
 have HR1_7 := zc.mk hr1_7
 have HC1_7 := zc.mk hc1_7
 clear hr1_7 hc1_7
 have HR1_8 := zc.mk hr1_8
 have HC1_8 := zc.mk hc1_8
 clear hr1_8 hc1_8
 have HR1_9 := zc.mk hr1_9
 have HC1_9 := zc.mk hc1_9
 clear hr1_9 hc1_9
 have HB := zc.mk (Below.refl w.heap.size w)
 have H : ((yj.f).bind fun t752 => (if t752 = true then ((zH.f k a0_0 a0_1 a0_2 a0_3 a0_4 l0_5 l0_6 l0_7 l0_8 l0_9 a1_0 a1_1 a1_2 a1_3 a1_4 l1_5 l1_6 l1_7 l1_8 l1_9).bind fun t753 => ((yi.f k a0_0 a0_1 a0_2 a0_3 a0_4 l0_5 l0_6 l0_7 l0_8 l0_9 a1_0 a1_1 a1_2 a1_3 a1_4 l1_5 l1_6 l1_7 l1_8 l1_9).bind fun t754 => (if (t753 == t754) = true then ((zH.f k a0_0 a0_1 a0_2 a0_3 a0_4 l0_5 l0_6 l0_7 l0_8 l0_9 a0_0 a0_1 a0_2 a0_3 a0_4 l0_5 l0_6 l0_7 l0_8 l0_9).bind fun t755 => (if t755 = true then ((zH.f k a1_0 a1_1 a1_2 a1_3 a1_4 l1_5 l1_6 l1_7 l1_8 l1_9 a0_0 a0_1 a0_2 a0_3 a0_4 l0_5 l0_6 l0_7 l0_8 l0_9).bind fun t756 => ((zH.f k a0_0 a0_1 a0_2 a0_3 a0_4 l0_5 l0_6 l0_7 l0_8 l0_9 a1_0 a1_1 a1_2 a1_3 a1_4 l1_5 l1_6 l1_7 l1_8 l1_9).bind fun t757 => (some (t756 == t757)))) else (some false))) else (some false)))) else (some false))) = some r := h
 clear h
 replace H := Zi.mp H
 obtain ⟨t752, A30, H⟩ := H
 replace H : (if t752 = true then ((zH.f k a0_0 a0_1 a0_2 a0_3 a0_4 l0_5 l0_6 l0_7 l0_8 l0_9 a1_0 a1_1 a1_2 a1_3 a1_4 l1_5 l1_6 l1_7 l1_8 l1_9).bind fun t753 => ((yi.f k a0_0 a0_1 a0_2 a0_3 a0_4 l0_5 l0_6 l0_7 l0_8 l0_9 a1_0 a1_1 a1_2 a1_3 a1_4 l1_5 l1_6 l1_7 l1_8 l1_9).bind fun t754 => (if (t753 == t754) = true then ((zH.f k a0_0 a0_1 a0_2 a0_3 a0_4 l0_5 l0_6 l0_7 l0_8 l0_9 a0_0 a0_1 a0_2 a0_3 a0_4 l0_5 l0_6 l0_7 l0_8 l0_9).bind fun t755 => (if t755 = true then ((zH.f k a1_0 a1_1 a1_2 a1_3 a1_4 l1_5 l1_6 l1_7 l1_8 l1_9 a0_0 a0_1 a0_2 a0_3 a0_4 l0_5 l0_6 l0_7 l0_8 l0_9).bind fun t756 => ((zH.f k a0_0 a0_1 a0_2 a0_3 a0_4 l0_5 l0_6 l0_7 l0_8 l0_9 a1_0 a1_1 a1_2 a1_3 a1_4 l1_5 l1_6 l1_7 l1_8 l1_9).bind fun t757 => (some (t756 == t757)))) else (some false))) else (some false)))) else (some false)) = some r := H
 have A3 := zc.mk A30
 clear A30
 by_cases c4 : t752 = true
 ·subst c4
  have H1 : ((zH.f k a0_0 a0_1 a0_2 a0_3 a0_4 l0_5 l0_6 l0_7 l0_8 l0_9 a1_0 a1_1 a1_2 a1_3 a1_4 l1_5 l1_6 l1_7 l1_8 l1_9).bind fun t753 => ((yi.f k a0_0 a0_1 a0_2 a0_3 a0_4 l0_5 l0_6 l0_7 l0_8 l0_9 a1_0 a1_1 a1_2 a1_3 a1_4 l1_5 l1_6 l1_7 l1_8 l1_9).bind fun t754 => (if (t753 == t754) = true then ((zH.f k a0_0 a0_1 a0_2 a0_3 a0_4 l0_5 l0_6 l0_7 l0_8 l0_9 a0_0 a0_1 a0_2 a0_3 a0_4 l0_5 l0_6 l0_7 l0_8 l0_9).bind fun t755 => (if t755 = true then ((zH.f k a1_0 a1_1 a1_2 a1_3 a1_4 l1_5 l1_6 l1_7 l1_8 l1_9 a0_0 a0_1 a0_2 a0_3 a0_4 l0_5 l0_6 l0_7 l0_8 l0_9).bind fun t756 => ((zH.f k a0_0 a0_1 a0_2 a0_3 a0_4 l0_5 l0_6 l0_7 l0_8 l0_9 a1_0 a1_1 a1_2 a1_3 a1_4 l1_5 l1_6 l1_7 l1_8 l1_9).bind fun t757 => (some (t756 == t757)))) else (some false))) else (some false)))) = some r := by rw [if_pos rfl] at H; exact H
  clear H
  have H := H1
  clear H1
  replace H := Zi.mp H
  obtain ⟨t753, A50, H⟩ := H
  replace H : ((yi.f k a0_0 a0_1 a0_2 a0_3 a0_4 l0_5 l0_6 l0_7 l0_8 l0_9 a1_0 a1_1 a1_2 a1_3 a1_4 l1_5 l1_6 l1_7 l1_8 l1_9).bind fun t754 => (if (t753 == t754) = true then ((zH.f k a0_0 a0_1 a0_2 a0_3 a0_4 l0_5 l0_6 l0_7 l0_8 l0_9 a0_0 a0_1 a0_2 a0_3 a0_4 l0_5 l0_6 l0_7 l0_8 l0_9).bind fun t755 => (if t755 = true then ((zH.f k a1_0 a1_1 a1_2 a1_3 a1_4 l1_5 l1_6 l1_7 l1_8 l1_9 a0_0 a0_1 a0_2 a0_3 a0_4 l0_5 l0_6 l0_7 l0_8 l0_9).bind fun t756 => ((zH.f k a0_0 a0_1 a0_2 a0_3 a0_4 l0_5 l0_6 l0_7 l0_8 l0_9 a1_0 a1_1 a1_2 a1_3 a1_4 l1_5 l1_6 l1_7 l1_8 l1_9).bind fun t757 => (some (t756 == t757)))) else (some false))) else (some false))) = some r := H
  have A5 := zc.mk A50
  clear A50
  replace H := Zi.mp H
  obtain ⟨t754, A60, H⟩ := H
  replace H : (if (t753 == t754) = true then ((zH.f k a0_0 a0_1 a0_2 a0_3 a0_4 l0_5 l0_6 l0_7 l0_8 l0_9 a0_0 a0_1 a0_2 a0_3 a0_4 l0_5 l0_6 l0_7 l0_8 l0_9).bind fun t755 => (if t755 = true then ((zH.f k a1_0 a1_1 a1_2 a1_3 a1_4 l1_5 l1_6 l1_7 l1_8 l1_9 a0_0 a0_1 a0_2 a0_3 a0_4 l0_5 l0_6 l0_7 l0_8 l0_9).bind fun t756 => ((zH.f k a0_0 a0_1 a0_2 a0_3 a0_4 l0_5 l0_6 l0_7 l0_8 l0_9 a1_0 a1_1 a1_2 a1_3 a1_4 l1_5 l1_6 l1_7 l1_8 l1_9).bind fun t757 => (some (t756 == t757)))) else (some false))) else (some false)) = some r := H
  have A6 := zc.mk A60
  clear A60
  by_cases c7 : (t753 == t754) = true
  ·rw [if_pos c7] at H
   have c7b0 : (t753 == t754) = true := c7
   (try (have c7b1 : decide (t753 = t754) = true := by simpa using c7))
   (try (have c7b2 : (t753 == t754) = true := by simpa using c7))
   clear c7
   replace H := Zi.mp H
   obtain ⟨t755, A80, H⟩ := H
   replace H : (if t755 = true then ((zH.f k a1_0 a1_1 a1_2 a1_3 a1_4 l1_5 l1_6 l1_7 l1_8 l1_9 a0_0 a0_1 a0_2 a0_3 a0_4 l0_5 l0_6 l0_7 l0_8 l0_9).bind fun t756 => ((zH.f k a0_0 a0_1 a0_2 a0_3 a0_4 l0_5 l0_6 l0_7 l0_8 l0_9 a1_0 a1_1 a1_2 a1_3 a1_4 l1_5 l1_6 l1_7 l1_8 l1_9).bind fun t757 => (some (t756 == t757)))) else (some false)) = some r := H
   have A8 := zc.mk A80
   clear A80
   by_cases c9 : t755 = true
   ·subst c9
    have H1 : ((zH.f k a1_0 a1_1 a1_2 a1_3 a1_4 l1_5 l1_6 l1_7 l1_8 l1_9 a0_0 a0_1 a0_2 a0_3 a0_4 l0_5 l0_6 l0_7 l0_8 l0_9).bind fun t756 => ((zH.f k a0_0 a0_1 a0_2 a0_3 a0_4 l0_5 l0_6 l0_7 l0_8 l0_9 a1_0 a1_1 a1_2 a1_3 a1_4 l1_5 l1_6 l1_7 l1_8 l1_9).bind fun t757 => (some (t756 == t757)))) = some r := by rw [if_pos rfl] at H; exact H
    clear H
    have H := H1
    clear H1
    replace H := Zi.mp H
    obtain ⟨t756, A100, H⟩ := H
    replace H : ((zH.f k a0_0 a0_1 a0_2 a0_3 a0_4 l0_5 l0_6 l0_7 l0_8 l0_9 a1_0 a1_1 a1_2 a1_3 a1_4 l1_5 l1_6 l1_7 l1_8 l1_9).bind fun t757 => (some (t756 == t757))) = some r := H
    have A10 := zc.mk A100
    clear A100
    replace H := Zi.mp H
    obtain ⟨t757, A110, H⟩ := H
    replace H : (some (t756 == t757)) = some r := H
    have A11 := zc.mk A110
    clear A110
    have et757 := Option.some.inj (A11.out.symm.trans A5.out)
    obtain rfl := Option.some.inj H
    go_enter Tryz.func5, Tryz.ntmps5
    try go_wp2_with (first | ((with_reducible refine zB (N := 2) rfl ?_); refine zA ?hg (N := 2) ?hd (cs := #[.int .i64 a0_0, .int .i64 a0_1, .int .i64 a0_2, .int .i64 a0_3, .int .i64 a0_4, .slice A0_5 l0_5.length c0_5, .slice A0_6 l0_6.length c0_6, .slice A0_7 l0_7.length c0_7, .slice A0_8 l0_8.length c0_8, .slice A0_9 l0_9.length c0_9]) (t := 28) ?hr ?_; (case hd => rfl); (case hg => rfl); (case hr => first | (go_simp; done) | (go_simp; rfl)); intro gb750 hg w12 hbox hb; have n0_ := zc.mk (zs (by repeat (first | (with_reducible first | exact HB.out | apply zf | apply zd | apply ze) | exact HB.out)) hb); have n1_ := zc.mk (hbox); have n2_ := zc.mk ((by rw [hg]; exact (zr (by repeat (first | (with_reducible first | exact HB.out | apply zf | apply zd | apply ze) | exact HB.out))) : w.heap.size ≤ gb750)); have n3_ := zc.mk ((by rw [hg]; exact (zr (by repeat (first | (with_reducible first | exact HB.out | apply zf | apply zd | apply ze) | exact HB.out))) : w.heap.size ≤ gb750)); clear HB; have HB := n0_; have BK750 := n1_; have GW750 := n2_; have GE750 := n3_; clear n0_ n1_ n2_ n3_; clear hb hbox hg) | ((with_reducible refine zB (N := 3) rfl ?_); refine zA ?hg (N := 3) ?hd (cs := #[.int .i64 a1_0, .int .i64 a1_1, .int .i64 a1_2, .int .i64 a1_3, .int .i64 a1_4, .slice A1_5 l1_5.length c1_5, .slice A1_6 l1_6.length c1_6, .slice A1_7 l1_7.length c1_7, .slice A1_8 l1_8.length c1_8, .slice A1_9 l1_9.length c1_9]) (t := 28) ?hr ?_; (case hd => rfl); (case hg => rfl); (case hr => first | (go_simp; done) | (go_simp; rfl)); intro gb751 hg w13 hbox hb; have n0_ := zc.mk (zx (g := gb750) (o := .cells #[.int .i64 a0_0, .int .i64 a0_1, .int .i64 a0_2, .int .i64 a0_3, .int .i64 a0_4, .slice A0_5 l0_5.length c0_5, .slice A0_6 l0_6.length c0_6, .slice A0_7 l0_7.length c0_7, .slice A0_8 l0_8.length c0_8, .slice A0_9 l0_9.length c0_9] 28 (0, 0)) (by (with_reducible repeat (first | refine zh ?_ _ | refine zj ?_ | refine zi ?_ _)); exact BK750.out) hb); have n1_ := zc.mk (zs (by repeat (first | (with_reducible first | exact HB.out | apply zf | apply zd | apply ze | refine zg ?_ GE750.out) | exact HB.out)) hb); have n2_ := zc.mk (hbox); have n3_ := zc.mk ((by rw [hg]; exact (zr (by repeat (first | (with_reducible first | exact HB.out | apply zf | apply zd | apply ze | refine zg ?_ GE750.out) | exact HB.out))) : w.heap.size ≤ gb751)); have n4_ := zc.mk ((by rw [hg]; exact (zr (by repeat (first | (with_reducible first | exact HB.out | apply zf | apply zd | apply ze | refine zg ?_ GE750.out) | exact HB.out))) : w.heap.size ≤ gb751)); have n5_ := zc.mk ((by rw [hg]; exact Nat.ne_of_lt (zN (g := gb750) (o := .cells #[.int .i64 a0_0, .int .i64 a0_1, .int .i64 a0_2, .int .i64 a0_3, .int .i64 a0_4, .slice A0_5 l0_5.length c0_5, .slice A0_6 l0_6.length c0_6, .slice A0_7 l0_7.length c0_7, .slice A0_8 l0_8.length c0_8, .slice A0_9 l0_9.length c0_9] 28 (0, 0)) (by (with_reducible repeat (first | refine zh ?_ _ | refine zj ?_ | refine zi ?_ _)); exact BK750.out)) : gb750 ≠ gb751)); have n6_ := zc.mk ((by rw [hg]; exact Nat.ne_of_gt (zN (g := gb750) (o := .cells #[.int .i64 a0_0, .int .i64 a0_1, .int .i64 a0_2, .int .i64 a0_3, .int .i64 a0_4, .slice A0_5 l0_5.length c0_5, .slice A0_6 l0_6.length c0_6, .slice A0_7 l0_7.length c0_7, .slice A0_8 l0_8.length c0_8, .slice A0_9 l0_9.length c0_9] 28 (0, 0)) (by (with_reducible repeat (first | refine zh ?_ _ | refine zj ?_ | refine zi ?_ _)); exact BK750.out)) : gb751 ≠ gb750)); clear BK750; clear HB; have BK750 := n0_; have HB := n1_; have BK751 := n2_; have GW751 := n3_; have GE751 := n4_; have NB750_751 := n5_; have NB751_750 := n6_; clear n0_ n1_ n2_ n3_ n4_ n5_ n6_; clear hb hbox hg))
    have n0_ := zc.mk (zj BK750.out)
    have n1_ := zc.mk (zj BK751.out)
    have n2_ := zc.mk (ze HB.out)
    clear BK750
    clear BK751
    clear HB
    have BK750 := n0_
    have BK751 := n1_
    have HB := n2_
    clear n0_ n1_ n2_
    refine yK (n := 25) (S := fun w' => w'.cell? ⟨gb750, 0, none⟩ = some (.int .i64 a0_0) ∧ w'.cell? ⟨gb750, 1, none⟩ = some (.int .i64 a0_1) ∧ w'.cell? ⟨gb750, 2, none⟩ = some (.int .i64 a0_2) ∧ w'.cell? ⟨gb750, 3, none⟩ = some (.int .i64 a0_3) ∧ w'.cell? ⟨gb750, 4, none⟩ = some (.int .i64 a0_4) ∧ w'.cell? ⟨gb750, 5, none⟩ = some (.slice A0_5 l0_5.length c0_5) ∧ w'.cell? ⟨gb750, 6, none⟩ = some (.slice A0_6 l0_6.length c0_6) ∧ w'.cell? ⟨gb750, 7, none⟩ = some (.slice A0_7 l0_7.length c0_7) ∧ w'.cell? ⟨gb750, 8, none⟩ = some (.slice A0_8 l0_8.length c0_8) ∧ w'.cell? ⟨gb750, 9, none⟩ = some (.slice A0_9 l0_9.length c0_9) ∧ w'.cell? ⟨gb751, 0, none⟩ = some (.int .i64 a1_0) ∧ w'.cell? ⟨gb751, 1, none⟩ = some (.int .i64 a1_1) ∧ w'.cell? ⟨gb751, 2, none⟩ = some (.int .i64 a1_2) ∧ w'.cell? ⟨gb751, 3, none⟩ = some (.int .i64 a1_3) ∧ w'.cell? ⟨gb751, 4, none⟩ = some (.int .i64 a1_4) ∧ w'.cell? ⟨gb751, 5, none⟩ = some (.slice A1_5 l1_5.length c1_5) ∧ w'.cell? ⟨gb751, 6, none⟩ = some (.slice A1_6 l1_6.length c1_6) ∧ w'.cell? ⟨gb751, 7, none⟩ = some (.slice A1_7 l1_7.length c1_7) ∧ w'.cell? ⟨gb751, 8, none⟩ = some (.slice A1_8 l1_8.length c1_8) ∧ w'.cell? ⟨gb751, 9, none⟩ = some (.slice A1_9 l1_9.length c1_9)) (ds := []) #[X,X,X,X,X,X,X,X,X,X,X,X,X,X,X,X,X,X,X,X,X,X,X,X,X] (by kernel_rfl) rfl rfl ⟨(za BK750.out 0).trans rfl, (za BK750.out 1).trans rfl, (za BK750.out 2).trans rfl, (za BK750.out 3).trans rfl, (za BK750.out 4).trans rfl, (za BK750.out 5).trans rfl, (za BK750.out 6).trans rfl, (za BK750.out 7).trans rfl, (za BK750.out 8).trans rfl, (za BK750.out 9).trans rfl, (za BK751.out 0).trans rfl, (za BK751.out 1).trans rfl, (za BK751.out 2).trans rfl, (za BK751.out 3).trans rfl, (za BK751.out 4).trans rfl, (za BK751.out 5).trans rfl, (za BK751.out 6).trans rfl, (za BK751.out 7).trans rfl, (za BK751.out 8).trans rfl, (za BK751.out 9).trans rfl⟩ (fun hHeld => ?_); refine ym zU.tab1 zU.bits1 (fun HT_ HW_ => ?_)
    generalize w13.drew = w14 at BK750 BK751 HB hHeld ⊢
    refine yO (i := 0) (N := some 5) #[O,X,X,X,X,X,X,X,X,X,X,X,X,X,X,X,X,X,X,X,X,X,X,X,X] rfl rfl (yo HT_.out (by kernel_rfl)) (by decide) (fun K hK => ?_)
    refine yq Tryz.func9 (by kernel_rfl) rfl #[] (by rfl) rfl rfl (by (try simp only [Zh, List.map_cons, List.map_nil]); first | done | rfl | (simp only [List.length_drop, List.length_take]; rfl)) ?_
    with_reducible refine (yj.calls  true _ A3.out).mono ?_
    rintro e w15 ⟨rfl, hb⟩
    refine ⟨_, rfl, ?_⟩
    have n0_ := zc.mk (zx (g := gb750) (o := .cells #[.int .i64 a0_0, .int .i64 a0_1, .int .i64 a0_2, .int .i64 a0_3, .int .i64 a0_4, .slice A0_5 l0_5.length c0_5, .slice A0_6 l0_6.length c0_6, .slice A0_7 l0_7.length c0_7, .slice A0_8 l0_8.length c0_8, .slice A0_9 l0_9.length c0_9] 28 (0, 0)) (by (with_reducible repeat (first | refine zh ?_ _ | refine zj ?_ | refine zi ?_ _)); exact BK750.out) hb)
    have n1_ := zc.mk (zx (g := gb751) (o := .cells #[.int .i64 a1_0, .int .i64 a1_1, .int .i64 a1_2, .int .i64 a1_3, .int .i64 a1_4, .slice A1_5 l1_5.length c1_5, .slice A1_6 l1_6.length c1_6, .slice A1_7 l1_7.length c1_7, .slice A1_8 l1_8.length c1_8, .slice A1_9 l1_9.length c1_9] 28 (0, 0)) (by (with_reducible repeat (first | refine zh ?_ _ | refine zj ?_ | refine zi ?_ _)); exact BK751.out) hb)
    have n2_ := zc.mk (zs (by repeat (first | (with_reducible first | exact HB.out | apply zf | apply zd | apply ze | refine zg ?_ GE750.out | refine zg ?_ GE751.out) | exact HB.out)) hb)
    clear BK750
    clear BK751
    clear HB
    have BK750 := n0_
    have BK751 := n1_
    have HB := n2_
    clear n0_ n1_ n2_
    (try clear hb)
    (try clear hb2)
    (try clear hk)
    (try clear hi)
    refine hK.out _ _ ⟨(za BK750.out 0).trans rfl, (za BK750.out 1).trans rfl, (za BK750.out 2).trans rfl, (za BK750.out 3).trans rfl, (za BK750.out 4).trans rfl, (za BK750.out 5).trans rfl, (za BK750.out 6).trans rfl, (za BK750.out 7).trans rfl, (za BK750.out 8).trans rfl, (za BK750.out 9).trans rfl, (za BK751.out 0).trans rfl, (za BK751.out 1).trans rfl, (za BK751.out 2).trans rfl, (za BK751.out 3).trans rfl, (za BK751.out 4).trans rfl, (za BK751.out 5).trans rfl, (za BK751.out 6).trans rfl, (za BK751.out 7).trans rfl, (za BK751.out 8).trans rfl, (za BK751.out 9).trans rfl⟩ (fun hHeld => ?_)
    clear hK K
    refine yF (a' := ?_) ?_ ?_
    rotate_left
    ·show Act.put _ (some 5) _ = _
     simp only [Act.put, Ze, Zf, Zg, zl, zm]
     rfl
    refine zq (i := 1) (N := some 6) (v := ?_) (a' := ?_) #[O,O,X,X,X,X,X,X,X,X,X,X,X,X,X,X,X,X,X,X,X,X,X,X,X] rfl rfl (zo HT_.out (by kernel_rfl)) (fun _ _ _ h => h) (Or.inl ⟨by rfl, ?_⟩) ?_ ?_
    rotate_left
    ·intro w'
     go_simp
     with_reducible rfl
    rotate_left
    ·simp only [Act.put, Ze, Zf, Zg, zl, zm]
     rfl
    refine take_ (i := 2) (N := some 7) (v := ?_) (a' := ?_) #[O,O,O,X,X,X,X,X,X,X,X,X,X,X,X,X,X,X,X,X,X,X,X,X,X] rfl rfl (zQ HT_.out HW_.out (by kernel_rfl)) (fun _ _ _ h => h) (Or.inl ⟨by rfl, ?_⟩) hHeld ?_ ?_
    rotate_left
    ·rintro w' ⟨s0, s1, s2, s3, s4, s5, s6, s7, s8, s9, s10, s11, s12, s13, s14, s15, s16, s17, s18, s19⟩
     go_simp
     with_reducible rfl
    rotate_left
    ·simp only [Act.put, Ze, Zf, Zg, zl, zm]
     rfl
    refine take_ (i := 3) (N := some 8) (v := ?_) (a' := ?_) #[O,O,O,O,X,X,X,X,X,X,X,X,X,X,X,X,X,X,X,X,X,X,X,X,X] rfl rfl (zQ HT_.out HW_.out (by kernel_rfl)) (fun _ _ _ h => h) (Or.inl ⟨by rfl, ?_⟩) hHeld ?_ ?_
    rotate_left
    ·rintro w' ⟨s0, s1, s2, s3, s4, s5, s6, s7, s8, s9, s10, s11, s12, s13, s14, s15, s16, s17, s18, s19⟩
     go_simp
     with_reducible rfl
    rotate_left
    ·simp only [Act.put, Ze, Zf, Zg, zl, zm]
     rfl
    refine take_ (i := 5) (N := some 10) (v := ?_) (a' := ?_) #[O,O,O,O,X,O,X,X,X,X,X,X,X,X,X,X,X,X,X,X,X,X,X,X,X] rfl rfl (zQ HT_.out HW_.out (by kernel_rfl)) (fun _ _ _ h => h) (Or.inl ⟨by rfl, ?_⟩) hHeld ?_ ?_
    rotate_left
    ·rintro w' ⟨s0, s1, s2, s3, s4, s5, s6, s7, s8, s9, s10, s11, s12, s13, s14, s15, s16, s17, s18, s19⟩
     go_simp
     with_reducible rfl
    rotate_left
    ·simp only [Act.put, Ze, Zf, Zg, zl, zm]
     rfl
    refine take_ (i := 6) (N := some 11) (v := ?_) (a' := ?_) #[O,O,O,O,X,O,O,X,X,X,X,X,X,X,X,X,X,X,X,X,X,X,X,X,X] rfl rfl (zQ HT_.out HW_.out (by kernel_rfl)) (fun _ _ _ h => h) (Or.inl ⟨by rfl, ?_⟩) hHeld ?_ ?_
    rotate_left
    ·rintro w' ⟨s0, s1, s2, s3, s4, s5, s6, s7, s8, s9, s10, s11, s12, s13, s14, s15, s16, s17, s18, s19⟩
     go_simp
     with_reducible rfl
    rotate_left
    ·simp only [Act.put, Ze, Zf, Zg, zl, zm]
     rfl
    refine yO (i := 4) (N := some 9) #[O,O,O,O,O,O,O,X,X,X,X,X,X,X,X,X,X,X,X,X,X,X,X,X,X] rfl rfl (yo HT_.out (by kernel_rfl)) (by decide) (fun K hK => ?_)
    refine yq Tryz.func15 (by kernel_rfl) rfl #[.agg #[.int .i64 a0_0, .int .i64 a0_1, .int .i64 a0_2, .int .i64 a0_3, .int .i64 a0_4, .slice A0_5 l0_5.length c0_5, .slice A0_6 l0_6.length c0_6, .slice A0_7 l0_7.length c0_7, .slice A0_8 l0_8.length c0_8, .slice A0_9 l0_9.length c0_9], .agg #[.int .i64 a1_0, .int .i64 a1_1, .int .i64 a1_2, .int .i64 a1_3, .int .i64 a1_4, .slice A1_5 l1_5.length c1_5, .slice A1_6 l1_6.length c1_6, .slice A1_7 l1_7.length c1_7, .slice A1_8 l1_8.length c1_8, .slice A1_9 l1_9.length c1_9]] (by rfl) rfl rfl (by (try simp only [Zh, List.map_cons, List.map_nil]); first | done | rfl | (simp only [List.length_drop, List.length_take]; rfl)) ?_
    with_reducible refine (zH.calls k a0_0 a0_1 a0_2 a0_3 a0_4 _ _ l0_5 _ _ l0_6 _ _ l0_7 _ _ l0_8 _ _ l0_9 a1_0 a1_1 a1_2 a1_3 a1_4 _ _ l1_5 _ _ l1_6 _ _ l1_7 _ _ l1_8 _ _ l1_9 t753 _ ?side1 ?side2 ?side3 ?side4 ?side5 ?side6 ?side7 ?side8 ?side9 ?side10 ?side11 ?side12 ?side13 ?side14 ?side15 ?side16 ?side17 ?side18 ?side19 ?side20 A5.out).mono ?_
    (case side1 => repeat (first | exact (Kd.C_below HR0_5.out HB.out) | (with_reducible refine Kd.C_alloc ?_ _) | (with_reducible refine Kd.C_drewN ?_ _) | (with_reducible refine Kd.C_drew ?_)))
    (case side2 => exact HC0_5.out)
    (case side3 => repeat (first | exact (Kd.C_below HR0_6.out HB.out) | (with_reducible refine Kd.C_alloc ?_ _) | (with_reducible refine Kd.C_drewN ?_ _) | (with_reducible refine Kd.C_drew ?_)))
    (case side4 => exact HC0_6.out)
    (case side5 => repeat (first | exact (Kd.C_below HR0_7.out HB.out) | (with_reducible refine Kd.C_alloc ?_ _) | (with_reducible refine Kd.C_drewN ?_ _) | (with_reducible refine Kd.C_drew ?_)))
    (case side6 => exact HC0_7.out)
    (case side7 => repeat (first | exact (Kd.C_below HR0_8.out HB.out) | (with_reducible refine Kd.C_alloc ?_ _) | (with_reducible refine Kd.C_drewN ?_ _) | (with_reducible refine Kd.C_drew ?_)))
    (case side8 => exact HC0_8.out)
    (case side9 => repeat (first | exact (Kd.C_below HR0_9.out HB.out) | (with_reducible refine Kd.C_alloc ?_ _) | (with_reducible refine Kd.C_drewN ?_ _) | (with_reducible refine Kd.C_drew ?_)))
    (case side10 => exact HC0_9.out)
    (case side11 => repeat (first | exact (Kd.C_below HR1_5.out HB.out) | (with_reducible refine Kd.C_alloc ?_ _) | (with_reducible refine Kd.C_drewN ?_ _) | (with_reducible refine Kd.C_drew ?_)))
    (case side12 => exact HC1_5.out)
    (case side13 => repeat (first | exact (Kd.C_below HR1_6.out HB.out) | (with_reducible refine Kd.C_alloc ?_ _) | (with_reducible refine Kd.C_drewN ?_ _) | (with_reducible refine Kd.C_drew ?_)))
    (case side14 => exact HC1_6.out)
    (case side15 => repeat (first | exact (Kd.C_below HR1_7.out HB.out) | (with_reducible refine Kd.C_alloc ?_ _) | (with_reducible refine Kd.C_drewN ?_ _) | (with_reducible refine Kd.C_drew ?_)))
    (case side16 => exact HC1_7.out)
    (case side17 => repeat (first | exact (Kd.C_below HR1_8.out HB.out) | (with_reducible refine Kd.C_alloc ?_ _) | (with_reducible refine Kd.C_drewN ?_ _) | (with_reducible refine Kd.C_drew ?_)))
    (case side18 => exact HC1_8.out)
    (case side19 => repeat (first | exact (Kd.C_below HR1_9.out HB.out) | (with_reducible refine Kd.C_alloc ?_ _) | (with_reducible refine Kd.C_drewN ?_ _) | (with_reducible refine Kd.C_drew ?_)))
    (case side20 => exact HC1_9.out)
    rintro e w16 ⟨rfl, hb⟩
    refine ⟨_, rfl, ?_⟩
    have n0_ := zc.mk (zx (g := gb750) (o := .cells #[.int .i64 a0_0, .int .i64 a0_1, .int .i64 a0_2, .int .i64 a0_3, .int .i64 a0_4, .slice A0_5 l0_5.length c0_5, .slice A0_6 l0_6.length c0_6, .slice A0_7 l0_7.length c0_7, .slice A0_8 l0_8.length c0_8, .slice A0_9 l0_9.length c0_9] 28 (0, 0)) (by (with_reducible repeat (first | refine zh ?_ _ | refine zj ?_ | refine zi ?_ _)); exact BK750.out) hb)
    have n1_ := zc.mk (zx (g := gb751) (o := .cells #[.int .i64 a1_0, .int .i64 a1_1, .int .i64 a1_2, .int .i64 a1_3, .int .i64 a1_4, .slice A1_5 l1_5.length c1_5, .slice A1_6 l1_6.length c1_6, .slice A1_7 l1_7.length c1_7, .slice A1_8 l1_8.length c1_8, .slice A1_9 l1_9.length c1_9] 28 (0, 0)) (by (with_reducible repeat (first | refine zh ?_ _ | refine zj ?_ | refine zi ?_ _)); exact BK751.out) hb)
    have n2_ := zc.mk (zs (by repeat (first | (with_reducible first | exact HB.out | apply zf | apply zd | apply ze | refine zg ?_ GE750.out | refine zg ?_ GE751.out) | exact HB.out)) hb)
    clear BK750
    clear BK751
    clear HB
    have BK750 := n0_
    have BK751 := n1_
    have HB := n2_
    clear n0_ n1_ n2_
    (try clear hb)
    (try clear hb2)
    (try clear hk)
    (try clear hi)
    refine hK.out _ _ ⟨(za BK750.out 0).trans rfl, (za BK750.out 1).trans rfl, (za BK750.out 2).trans rfl, (za BK750.out 3).trans rfl, (za BK750.out 4).trans rfl, (za BK750.out 5).trans rfl, (za BK750.out 6).trans rfl, (za BK750.out 7).trans rfl, (za BK750.out 8).trans rfl, (za BK750.out 9).trans rfl, (za BK751.out 0).trans rfl, (za BK751.out 1).trans rfl, (za BK751.out 2).trans rfl, (za BK751.out 3).trans rfl, (za BK751.out 4).trans rfl, (za BK751.out 5).trans rfl, (za BK751.out 6).trans rfl, (za BK751.out 7).trans rfl, (za BK751.out 8).trans rfl, (za BK751.out 9).trans rfl⟩ (fun hHeld => ?_)
    clear hK K
    refine yF (a' := ?_) ?_ ?_
    rotate_left
    ·show Act.put _ (some 9) _ = _
     simp only [Act.put, Ze, Zf, Zg, zl, zm]
     rfl
    refine yO (i := 7) (N := some 12) #[O,O,O,O,O,O,O,O,X,X,X,X,X,X,X,X,X,X,X,X,X,X,X,X,X] rfl rfl (yo HT_.out (by kernel_rfl)) (by decide) (fun K hK => ?_)
    refine yq Tryz.func14 (by kernel_rfl) rfl #[.agg #[.int .i64 a0_0, .int .i64 a0_1, .int .i64 a0_2, .int .i64 a0_3, .int .i64 a0_4, .slice A0_5 l0_5.length c0_5, .slice A0_6 l0_6.length c0_6, .slice A0_7 l0_7.length c0_7, .slice A0_8 l0_8.length c0_8, .slice A0_9 l0_9.length c0_9], .agg #[.int .i64 a1_0, .int .i64 a1_1, .int .i64 a1_2, .int .i64 a1_3, .int .i64 a1_4, .slice A1_5 l1_5.length c1_5, .slice A1_6 l1_6.length c1_6, .slice A1_7 l1_7.length c1_7, .slice A1_8 l1_8.length c1_8, .slice A1_9 l1_9.length c1_9]] (by rfl) rfl rfl (by (try simp only [Zh, List.map_cons, List.map_nil]); first | done | rfl | (simp only [List.length_drop, List.length_take]; rfl)) ?_
    with_reducible refine (yi.calls k a0_0 a0_1 a0_2 a0_3 a0_4 _ _ l0_5 _ _ l0_6 _ _ l0_7 _ _ l0_8 _ _ l0_9 a1_0 a1_1 a1_2 a1_3 a1_4 _ _ l1_5 _ _ l1_6 _ _ l1_7 _ _ l1_8 _ _ l1_9 t754 _ ?side1 ?side2 ?side3 ?side4 ?side5 ?side6 ?side7 ?side8 ?side9 ?side10 ?side11 ?side12 ?side13 ?side14 ?side15 ?side16 ?side17 ?side18 ?side19 ?side20 A6.out).mono ?_
    (case side1 => repeat (first | exact (Kd.C_below HR0_5.out HB.out) | (with_reducible refine Kd.C_alloc ?_ _) | (with_reducible refine Kd.C_drewN ?_ _) | (with_reducible refine Kd.C_drew ?_)))
    (case side2 => exact HC0_5.out)
    (case side3 => repeat (first | exact (Kd.C_below HR0_6.out HB.out) | (with_reducible refine Kd.C_alloc ?_ _) | (with_reducible refine Kd.C_drewN ?_ _) | (with_reducible refine Kd.C_drew ?_)))
    (case side4 => exact HC0_6.out)
    (case side5 => repeat (first | exact (Kd.C_below HR0_7.out HB.out) | (with_reducible refine Kd.C_alloc ?_ _) | (with_reducible refine Kd.C_drewN ?_ _) | (with_reducible refine Kd.C_drew ?_)))
    (case side6 => exact HC0_7.out)
    (case side7 => repeat (first | exact (Kd.C_below HR0_8.out HB.out) | (with_reducible refine Kd.C_alloc ?_ _) | (with_reducible refine Kd.C_drewN ?_ _) | (with_reducible refine Kd.C_drew ?_)))
    (case side8 => exact HC0_8.out)
    (case side9 => repeat (first | exact (Kd.C_below HR0_9.out HB.out) | (with_reducible refine Kd.C_alloc ?_ _) | (with_reducible refine Kd.C_drewN ?_ _) | (with_reducible refine Kd.C_drew ?_)))
    (case side10 => exact HC0_9.out)
    (case side11 => repeat (first | exact (Kd.C_below HR1_5.out HB.out) | (with_reducible refine Kd.C_alloc ?_ _) | (with_reducible refine Kd.C_drewN ?_ _) | (with_reducible refine Kd.C_drew ?_)))
    (case side12 => exact HC1_5.out)
    (case side13 => repeat (first | exact (Kd.C_below HR1_6.out HB.out) | (with_reducible refine Kd.C_alloc ?_ _) | (with_reducible refine Kd.C_drewN ?_ _) | (with_reducible refine Kd.C_drew ?_)))
    (case side14 => exact HC1_6.out)
    (case side15 => repeat (first | exact (Kd.C_below HR1_7.out HB.out) | (with_reducible refine Kd.C_alloc ?_ _) | (with_reducible refine Kd.C_drewN ?_ _) | (with_reducible refine Kd.C_drew ?_)))
    (case side16 => exact HC1_7.out)
    (case side17 => repeat (first | exact (Kd.C_below HR1_8.out HB.out) | (with_reducible refine Kd.C_alloc ?_ _) | (with_reducible refine Kd.C_drewN ?_ _) | (with_reducible refine Kd.C_drew ?_)))
    (case side18 => exact HC1_8.out)
    (case side19 => repeat (first | exact (Kd.C_below HR1_9.out HB.out) | (with_reducible refine Kd.C_alloc ?_ _) | (with_reducible refine Kd.C_drewN ?_ _) | (with_reducible refine Kd.C_drew ?_)))
    (case side20 => exact HC1_9.out)
    rintro e w17 ⟨rfl, hb⟩
    refine ⟨_, rfl, ?_⟩
    have n0_ := zc.mk (zx (g := gb750) (o := .cells #[.int .i64 a0_0, .int .i64 a0_1, .int .i64 a0_2, .int .i64 a0_3, .int .i64 a0_4, .slice A0_5 l0_5.length c0_5, .slice A0_6 l0_6.length c0_6, .slice A0_7 l0_7.length c0_7, .slice A0_8 l0_8.length c0_8, .slice A0_9 l0_9.length c0_9] 28 (0, 0)) (by (with_reducible repeat (first | refine zh ?_ _ | refine zj ?_ | refine zi ?_ _)); exact BK750.out) hb)
    have n1_ := zc.mk (zx (g := gb751) (o := .cells #[.int .i64 a1_0, .int .i64 a1_1, .int .i64 a1_2, .int .i64 a1_3, .int .i64 a1_4, .slice A1_5 l1_5.length c1_5, .slice A1_6 l1_6.length c1_6, .slice A1_7 l1_7.length c1_7, .slice A1_8 l1_8.length c1_8, .slice A1_9 l1_9.length c1_9] 28 (0, 0)) (by (with_reducible repeat (first | refine zh ?_ _ | refine zj ?_ | refine zi ?_ _)); exact BK751.out) hb)
    have n2_ := zc.mk (zs (by repeat (first | (with_reducible first | exact HB.out | apply zf | apply zd | apply ze | refine zg ?_ GE750.out | refine zg ?_ GE751.out) | exact HB.out)) hb)
    clear BK750
    clear BK751
    clear HB
    have BK750 := n0_
    have BK751 := n1_
    have HB := n2_
    clear n0_ n1_ n2_
    (try clear hb)
    (try clear hb2)
    (try clear hk)
    (try clear hi)
    refine hK.out _ _ ⟨(za BK750.out 0).trans rfl, (za BK750.out 1).trans rfl, (za BK750.out 2).trans rfl, (za BK750.out 3).trans rfl, (za BK750.out 4).trans rfl, (za BK750.out 5).trans rfl, (za BK750.out 6).trans rfl, (za BK750.out 7).trans rfl, (za BK750.out 8).trans rfl, (za BK750.out 9).trans rfl, (za BK751.out 0).trans rfl, (za BK751.out 1).trans rfl, (za BK751.out 2).trans rfl, (za BK751.out 3).trans rfl, (za BK751.out 4).trans rfl, (za BK751.out 5).trans rfl, (za BK751.out 6).trans rfl, (za BK751.out 7).trans rfl, (za BK751.out 8).trans rfl, (za BK751.out 9).trans rfl⟩ (fun hHeld => ?_)
    clear hK K
    refine yF (a' := ?_) ?_ ?_
    rotate_left
    ·show Act.put _ (some 12) _ = _
     simp only [Act.put, Ze, Zf, Zg, zl, zm]
     rfl
    refine zq (i := 8) (N := some 13) (v := ?_) (a' := ?_) #[O,O,O,O,O,O,O,O,O,X,X,X,X,X,X,X,X,X,X,X,X,X,X,X,X] rfl rfl (zo HT_.out (by kernel_rfl)) (fun _ _ _ h => h) (Or.inl ⟨by rfl, ?_⟩) ?_ ?_
    rotate_left
    ·intro w'
     go_simp
     with_reducible rfl
    rotate_left
    ·simp only [Act.put, Ze, Zf, Zg, zl, zm]
     rfl
    refine zq (i := 9) (N := some 14) (v := ?_) (a' := ?_) #[O,O,O,O,O,O,O,O,O,O,X,X,X,X,X,X,X,X,X,X,X,X,X,X,X] rfl rfl (zo HT_.out (by kernel_rfl)) (fun _ _ _ h => h) (Or.inl ⟨by rfl, ?_⟩) ?_ ?_
    rotate_left
    ·intro w'
     go_simp
     with_reducible rfl
    rotate_left
    ·simp only [Act.put, Ze, Zf, Zg, zl, zm]
     rfl
    refine zq (i := 10) (N := some 15) (v := ?_) (a' := ?_) #[O,O,O,O,O,O,O,O,O,O,O,X,X,X,X,X,X,X,X,X,X,X,X,X,X] rfl rfl (zo HT_.out (by kernel_rfl)) (fun _ _ _ h => h) (Or.inl ⟨by rfl, ?_⟩) ?_ ?_
    rotate_left
    ·intro w'
     go_simp
     with_reducible rfl
    rotate_left
    ·simp only [Act.put, Ze, Zf, Zg, zl, zm]
     rfl
    refine take_ (i := 11) (N := some 16) (v := ?_) (a' := ?_) #[O,O,O,O,O,O,O,O,O,O,O,O,X,X,X,X,X,X,X,X,X,X,X,X,X] rfl rfl (zQ HT_.out HW_.out (by kernel_rfl)) (fun _ _ _ h => h) (Or.inl ⟨by rfl, ?_⟩) hHeld ?_ ?_
    rotate_left
    ·rintro w' ⟨s0, s1, s2, s3, s4, s5, s6, s7, s8, s9, s10, s11, s12, s13, s14, s15, s16, s17, s18, s19⟩
     go_simp
     with_reducible rfl
    rotate_left
    ·simp only [Act.put, Ze, Zf, Zg, zl, zm]
     rfl
    refine take_ (i := 12) (N := some 17) (v := ?_) (a' := ?_) #[O,O,O,O,O,O,O,O,O,O,O,O,O,X,X,X,X,X,X,X,X,X,X,X,X] rfl rfl (zQ HT_.out HW_.out (by kernel_rfl)) (fun _ _ _ h => h) (Or.inl ⟨by rfl, ?_⟩) hHeld ?_ ?_
    rotate_left
    ·rintro w' ⟨s0, s1, s2, s3, s4, s5, s6, s7, s8, s9, s10, s11, s12, s13, s14, s15, s16, s17, s18, s19⟩
     go_simp
     with_reducible rfl
    rotate_left
    ·simp only [Act.put, Ze, Zf, Zg, zl, zm]
     rfl
    refine yO (i := 13) (N := some 18) #[O,O,O,O,O,O,O,O,O,O,O,O,O,O,X,X,X,X,X,X,X,X,X,X,X] rfl rfl (yo HT_.out (by kernel_rfl)) (by decide) (fun K hK => ?_)
    refine yq Tryz.func15 (by kernel_rfl) rfl #[.agg #[.int .i64 a0_0, .int .i64 a0_1, .int .i64 a0_2, .int .i64 a0_3, .int .i64 a0_4, .slice A0_5 l0_5.length c0_5, .slice A0_6 l0_6.length c0_6, .slice A0_7 l0_7.length c0_7, .slice A0_8 l0_8.length c0_8, .slice A0_9 l0_9.length c0_9], .agg #[.int .i64 a0_0, .int .i64 a0_1, .int .i64 a0_2, .int .i64 a0_3, .int .i64 a0_4, .slice A0_5 l0_5.length c0_5, .slice A0_6 l0_6.length c0_6, .slice A0_7 l0_7.length c0_7, .slice A0_8 l0_8.length c0_8, .slice A0_9 l0_9.length c0_9]] (by rfl) rfl rfl (by (try simp only [Zh, List.map_cons, List.map_nil]); first | done | rfl | (simp only [List.length_drop, List.length_take]; rfl)) ?_
    with_reducible refine (zH.calls k a0_0 a0_1 a0_2 a0_3 a0_4 _ _ l0_5 _ _ l0_6 _ _ l0_7 _ _ l0_8 _ _ l0_9 a0_0 a0_1 a0_2 a0_3 a0_4 _ _ l0_5 _ _ l0_6 _ _ l0_7 _ _ l0_8 _ _ l0_9 true _ ?side1 ?side2 ?side3 ?side4 ?side5 ?side6 ?side7 ?side8 ?side9 ?side10 ?side11 ?side12 ?side13 ?side14 ?side15 ?side16 ?side17 ?side18 ?side19 ?side20 A8.out).mono ?_
    (case side1 => repeat (first | exact (Kd.C_below HR0_5.out HB.out) | (with_reducible refine Kd.C_alloc ?_ _) | (with_reducible refine Kd.C_drewN ?_ _) | (with_reducible refine Kd.C_drew ?_)))
    (case side2 => exact HC0_5.out)
    (case side3 => repeat (first | exact (Kd.C_below HR0_6.out HB.out) | (with_reducible refine Kd.C_alloc ?_ _) | (with_reducible refine Kd.C_drewN ?_ _) | (with_reducible refine Kd.C_drew ?_)))
    (case side4 => exact HC0_6.out)
    (case side5 => repeat (first | exact (Kd.C_below HR0_7.out HB.out) | (with_reducible refine Kd.C_alloc ?_ _) | (with_reducible refine Kd.C_drewN ?_ _) | (with_reducible refine Kd.C_drew ?_)))
    (case side6 => exact HC0_7.out)
    (case side7 => repeat (first | exact (Kd.C_below HR0_8.out HB.out) | (with_reducible refine Kd.C_alloc ?_ _) | (with_reducible refine Kd.C_drewN ?_ _) | (with_reducible refine Kd.C_drew ?_)))
    (case side8 => exact HC0_8.out)
    (case side9 => repeat (first | exact (Kd.C_below HR0_9.out HB.out) | (with_reducible refine Kd.C_alloc ?_ _) | (with_reducible refine Kd.C_drewN ?_ _) | (with_reducible refine Kd.C_drew ?_)))
    (case side10 => exact HC0_9.out)
    (case side11 => repeat (first | exact (Kd.C_below HR0_5.out HB.out) | (with_reducible refine Kd.C_alloc ?_ _) | (with_reducible refine Kd.C_drewN ?_ _) | (with_reducible refine Kd.C_drew ?_)))
    (case side12 => exact HC0_5.out)
    (case side13 => repeat (first | exact (Kd.C_below HR0_6.out HB.out) | (with_reducible refine Kd.C_alloc ?_ _) | (with_reducible refine Kd.C_drewN ?_ _) | (with_reducible refine Kd.C_drew ?_)))
    (case side14 => exact HC0_6.out)
    (case side15 => repeat (first | exact (Kd.C_below HR0_7.out HB.out) | (with_reducible refine Kd.C_alloc ?_ _) | (with_reducible refine Kd.C_drewN ?_ _) | (with_reducible refine Kd.C_drew ?_)))
    (case side16 => exact HC0_7.out)
    (case side17 => repeat (first | exact (Kd.C_below HR0_8.out HB.out) | (with_reducible refine Kd.C_alloc ?_ _) | (with_reducible refine Kd.C_drewN ?_ _) | (with_reducible refine Kd.C_drew ?_)))
    (case side18 => exact HC0_8.out)
    (case side19 => repeat (first | exact (Kd.C_below HR0_9.out HB.out) | (with_reducible refine Kd.C_alloc ?_ _) | (with_reducible refine Kd.C_drewN ?_ _) | (with_reducible refine Kd.C_drew ?_)))
    (case side20 => exact HC0_9.out)
    rintro e w18 ⟨rfl, hb⟩
    refine ⟨_, rfl, ?_⟩
    have n0_ := zc.mk (zx (g := gb750) (o := .cells #[.int .i64 a0_0, .int .i64 a0_1, .int .i64 a0_2, .int .i64 a0_3, .int .i64 a0_4, .slice A0_5 l0_5.length c0_5, .slice A0_6 l0_6.length c0_6, .slice A0_7 l0_7.length c0_7, .slice A0_8 l0_8.length c0_8, .slice A0_9 l0_9.length c0_9] 28 (0, 0)) (by (with_reducible repeat (first | refine zh ?_ _ | refine zj ?_ | refine zi ?_ _)); exact BK750.out) hb)
    have n1_ := zc.mk (zx (g := gb751) (o := .cells #[.int .i64 a1_0, .int .i64 a1_1, .int .i64 a1_2, .int .i64 a1_3, .int .i64 a1_4, .slice A1_5 l1_5.length c1_5, .slice A1_6 l1_6.length c1_6, .slice A1_7 l1_7.length c1_7, .slice A1_8 l1_8.length c1_8, .slice A1_9 l1_9.length c1_9] 28 (0, 0)) (by (with_reducible repeat (first | refine zh ?_ _ | refine zj ?_ | refine zi ?_ _)); exact BK751.out) hb)
    have n2_ := zc.mk (zs (by repeat (first | (with_reducible first | exact HB.out | apply zf | apply zd | apply ze | refine zg ?_ GE750.out | refine zg ?_ GE751.out) | exact HB.out)) hb)
    clear BK750
    clear BK751
    clear HB
    have BK750 := n0_
    have BK751 := n1_
    have HB := n2_
    clear n0_ n1_ n2_
    (try clear hb)
    (try clear hb2)
    (try clear hk)
    (try clear hi)
    refine hK.out _ _ ⟨(za BK750.out 0).trans rfl, (za BK750.out 1).trans rfl, (za BK750.out 2).trans rfl, (za BK750.out 3).trans rfl, (za BK750.out 4).trans rfl, (za BK750.out 5).trans rfl, (za BK750.out 6).trans rfl, (za BK750.out 7).trans rfl, (za BK750.out 8).trans rfl, (za BK750.out 9).trans rfl, (za BK751.out 0).trans rfl, (za BK751.out 1).trans rfl, (za BK751.out 2).trans rfl, (za BK751.out 3).trans rfl, (za BK751.out 4).trans rfl, (za BK751.out 5).trans rfl, (za BK751.out 6).trans rfl, (za BK751.out 7).trans rfl, (za BK751.out 8).trans rfl, (za BK751.out 9).trans rfl⟩ (fun hHeld => ?_)
    clear hK K
    refine yF (a' := ?_) ?_ ?_
    rotate_left
    ·show Act.put _ (some 18) _ = _
     simp only [Act.put, Ze, Zf, Zg, zl, zm]
     rfl
    refine zq (i := 14) (N := some 19) (v := ?_) (a' := ?_) #[O,O,O,O,O,O,O,O,O,O,O,O,O,O,O,X,X,X,X,X,X,X,X,X,X] rfl rfl (zo HT_.out (by kernel_rfl)) (fun _ _ _ h => h) (Or.inl ⟨by rfl, ?_⟩) ?_ ?_
    rotate_left
    ·intro w'
     go_simp
     with_reducible rfl
    rotate_left
    ·simp only [Act.put, Ze, Zf, Zg, zl, zm]
     rfl
    refine zq (i := 15) (N := some 20) (v := ?_) (a' := ?_) #[O,O,O,O,O,O,O,O,O,O,O,O,O,O,O,O,X,X,X,X,X,X,X,X,X] rfl rfl (zo HT_.out (by kernel_rfl)) (fun _ _ _ h => h) (Or.inl ⟨by rfl, ?_⟩) ?_ ?_
    rotate_left
    ·intro w'
     go_simp
     with_reducible rfl
    rotate_left
    ·simp only [Act.put, Ze, Zf, Zg, zl, zm]
     rfl
    refine take_ (i := 16) (N := some 21) (v := ?_) (a' := ?_) #[O,O,O,O,O,O,O,O,O,O,O,O,O,O,O,O,O,X,X,X,X,X,X,X,X] rfl rfl (zQ HT_.out HW_.out (by kernel_rfl)) (fun _ _ _ h => h) (Or.inl ⟨by rfl, ?_⟩) hHeld ?_ ?_
    rotate_left
    ·rintro w' ⟨s0, s1, s2, s3, s4, s5, s6, s7, s8, s9, s10, s11, s12, s13, s14, s15, s16, s17, s18, s19⟩
     go_simp
     with_reducible rfl
    rotate_left
    ·simp only [Act.put, Ze, Zf, Zg, zl, zm]
     rfl
    refine take_ (i := 17) (N := some 22) (v := ?_) (a' := ?_) #[O,O,O,O,O,O,O,O,O,O,O,O,O,O,O,O,O,O,X,X,X,X,X,X,X] rfl rfl (zQ HT_.out HW_.out (by kernel_rfl)) (fun _ _ _ h => h) (Or.inl ⟨by rfl, ?_⟩) hHeld ?_ ?_
    rotate_left
    ·rintro w' ⟨s0, s1, s2, s3, s4, s5, s6, s7, s8, s9, s10, s11, s12, s13, s14, s15, s16, s17, s18, s19⟩
     go_simp
     with_reducible rfl
    rotate_left
    ·simp only [Act.put, Ze, Zf, Zg, zl, zm]
     rfl
    refine take_ (i := 19) (N := some 24) (v := ?_) (a' := ?_) #[O,O,O,O,O,O,O,O,O,O,O,O,O,O,O,O,O,O,X,O,X,X,X,X,X] rfl rfl (zQ HT_.out HW_.out (by kernel_rfl)) (fun _ _ _ h => h) (Or.inl ⟨by rfl, ?_⟩) hHeld ?_ ?_
    rotate_left
    ·rintro w' ⟨s0, s1, s2, s3, s4, s5, s6, s7, s8, s9, s10, s11, s12, s13, s14, s15, s16, s17, s18, s19⟩
     go_simp
     with_reducible rfl
    rotate_left
    ·simp only [Act.put, Ze, Zf, Zg, zl, zm]
     rfl
    refine take_ (i := 20) (N := some 25) (v := ?_) (a' := ?_) #[O,O,O,O,O,O,O,O,O,O,O,O,O,O,O,O,O,O,X,O,O,X,X,X,X] rfl rfl (zQ HT_.out HW_.out (by kernel_rfl)) (fun _ _ _ h => h) (Or.inl ⟨by rfl, ?_⟩) hHeld ?_ ?_
    rotate_left
    ·rintro w' ⟨s0, s1, s2, s3, s4, s5, s6, s7, s8, s9, s10, s11, s12, s13, s14, s15, s16, s17, s18, s19⟩
     go_simp
     with_reducible rfl
    rotate_left
    ·simp only [Act.put, Ze, Zf, Zg, zl, zm]
     rfl
    refine yO (i := 18) (N := some 23) #[O,O,O,O,O,O,O,O,O,O,O,O,O,O,O,O,O,O,O,O,O,X,X,X,X] rfl rfl (yo HT_.out (by kernel_rfl)) (by decide) (fun K hK => ?_)
    refine yq Tryz.func15 (by kernel_rfl) rfl #[.agg #[.int .i64 a1_0, .int .i64 a1_1, .int .i64 a1_2, .int .i64 a1_3, .int .i64 a1_4, .slice A1_5 l1_5.length c1_5, .slice A1_6 l1_6.length c1_6, .slice A1_7 l1_7.length c1_7, .slice A1_8 l1_8.length c1_8, .slice A1_9 l1_9.length c1_9], .agg #[.int .i64 a0_0, .int .i64 a0_1, .int .i64 a0_2, .int .i64 a0_3, .int .i64 a0_4, .slice A0_5 l0_5.length c0_5, .slice A0_6 l0_6.length c0_6, .slice A0_7 l0_7.length c0_7, .slice A0_8 l0_8.length c0_8, .slice A0_9 l0_9.length c0_9]] (by rfl) rfl rfl (by (try simp only [Zh, List.map_cons, List.map_nil]); first | done | rfl | (simp only [List.length_drop, List.length_take]; rfl)) ?_
    with_reducible refine (zH.calls k a1_0 a1_1 a1_2 a1_3 a1_4 _ _ l1_5 _ _ l1_6 _ _ l1_7 _ _ l1_8 _ _ l1_9 a0_0 a0_1 a0_2 a0_3 a0_4 _ _ l0_5 _ _ l0_6 _ _ l0_7 _ _ l0_8 _ _ l0_9 t756 _ ?side1 ?side2 ?side3 ?side4 ?side5 ?side6 ?side7 ?side8 ?side9 ?side10 ?side11 ?side12 ?side13 ?side14 ?side15 ?side16 ?side17 ?side18 ?side19 ?side20 A10.out).mono ?_
    (case side1 => repeat (first | exact (Kd.C_below HR1_5.out HB.out) | (with_reducible refine Kd.C_alloc ?_ _) | (with_reducible refine Kd.C_drewN ?_ _) | (with_reducible refine Kd.C_drew ?_)))
    (case side2 => exact HC1_5.out)
    (case side3 => repeat (first | exact (Kd.C_below HR1_6.out HB.out) | (with_reducible refine Kd.C_alloc ?_ _) | (with_reducible refine Kd.C_drewN ?_ _) | (with_reducible refine Kd.C_drew ?_)))
    (case side4 => exact HC1_6.out)
    (case side5 => repeat (first | exact (Kd.C_below HR1_7.out HB.out) | (with_reducible refine Kd.C_alloc ?_ _) | (with_reducible refine Kd.C_drewN ?_ _) | (with_reducible refine Kd.C_drew ?_)))
    (case side6 => exact HC1_7.out)
    (case side7 => repeat (first | exact (Kd.C_below HR1_8.out HB.out) | (with_reducible refine Kd.C_alloc ?_ _) | (with_reducible refine Kd.C_drewN ?_ _) | (with_reducible refine Kd.C_drew ?_)))
    (case side8 => exact HC1_8.out)
    (case side9 => repeat (first | exact (Kd.C_below HR1_9.out HB.out) | (with_reducible refine Kd.C_alloc ?_ _) | (with_reducible refine Kd.C_drewN ?_ _) | (with_reducible refine Kd.C_drew ?_)))
    (case side10 => exact HC1_9.out)
    (case side11 => repeat (first | exact (Kd.C_below HR0_5.out HB.out) | (with_reducible refine Kd.C_alloc ?_ _) | (with_reducible refine Kd.C_drewN ?_ _) | (with_reducible refine Kd.C_drew ?_)))
    (case side12 => exact HC0_5.out)
    (case side13 => repeat (first | exact (Kd.C_below HR0_6.out HB.out) | (with_reducible refine Kd.C_alloc ?_ _) | (with_reducible refine Kd.C_drewN ?_ _) | (with_reducible refine Kd.C_drew ?_)))
    (case side14 => exact HC0_6.out)
    (case side15 => repeat (first | exact (Kd.C_below HR0_7.out HB.out) | (with_reducible refine Kd.C_alloc ?_ _) | (with_reducible refine Kd.C_drewN ?_ _) | (with_reducible refine Kd.C_drew ?_)))
    (case side16 => exact HC0_7.out)
    (case side17 => repeat (first | exact (Kd.C_below HR0_8.out HB.out) | (with_reducible refine Kd.C_alloc ?_ _) | (with_reducible refine Kd.C_drewN ?_ _) | (with_reducible refine Kd.C_drew ?_)))
    (case side18 => exact HC0_8.out)
    (case side19 => repeat (first | exact (Kd.C_below HR0_9.out HB.out) | (with_reducible refine Kd.C_alloc ?_ _) | (with_reducible refine Kd.C_drewN ?_ _) | (with_reducible refine Kd.C_drew ?_)))
    (case side20 => exact HC0_9.out)
    rintro e w19 ⟨rfl, hb⟩
    refine ⟨_, rfl, ?_⟩
    have n0_ := zc.mk (zx (g := gb750) (o := .cells #[.int .i64 a0_0, .int .i64 a0_1, .int .i64 a0_2, .int .i64 a0_3, .int .i64 a0_4, .slice A0_5 l0_5.length c0_5, .slice A0_6 l0_6.length c0_6, .slice A0_7 l0_7.length c0_7, .slice A0_8 l0_8.length c0_8, .slice A0_9 l0_9.length c0_9] 28 (0, 0)) (by (with_reducible repeat (first | refine zh ?_ _ | refine zj ?_ | refine zi ?_ _)); exact BK750.out) hb)
    have n1_ := zc.mk (zx (g := gb751) (o := .cells #[.int .i64 a1_0, .int .i64 a1_1, .int .i64 a1_2, .int .i64 a1_3, .int .i64 a1_4, .slice A1_5 l1_5.length c1_5, .slice A1_6 l1_6.length c1_6, .slice A1_7 l1_7.length c1_7, .slice A1_8 l1_8.length c1_8, .slice A1_9 l1_9.length c1_9] 28 (0, 0)) (by (with_reducible repeat (first | refine zh ?_ _ | refine zj ?_ | refine zi ?_ _)); exact BK751.out) hb)
    have n2_ := zc.mk (zs (by repeat (first | (with_reducible first | exact HB.out | apply zf | apply zd | apply ze | refine zg ?_ GE750.out | refine zg ?_ GE751.out) | exact HB.out)) hb)
    clear BK750
    clear BK751
    clear HB
    have BK750 := n0_
    have BK751 := n1_
    have HB := n2_
    clear n0_ n1_ n2_
    (try clear hb)
    (try clear hb2)
    (try clear hk)
    (try clear hi)
    refine hK.out _ _ ⟨(za BK750.out 0).trans rfl, (za BK750.out 1).trans rfl, (za BK750.out 2).trans rfl, (za BK750.out 3).trans rfl, (za BK750.out 4).trans rfl, (za BK750.out 5).trans rfl, (za BK750.out 6).trans rfl, (za BK750.out 7).trans rfl, (za BK750.out 8).trans rfl, (za BK750.out 9).trans rfl, (za BK751.out 0).trans rfl, (za BK751.out 1).trans rfl, (za BK751.out 2).trans rfl, (za BK751.out 3).trans rfl, (za BK751.out 4).trans rfl, (za BK751.out 5).trans rfl, (za BK751.out 6).trans rfl, (za BK751.out 7).trans rfl, (za BK751.out 8).trans rfl, (za BK751.out 9).trans rfl⟩ (fun hHeld => ?_)
    clear hK K
    refine yF (a' := ?_) ?_ ?_
    rotate_left
    ·show Act.put _ (some 23) _ = _
     simp only [Act.put, Ze, Zf, Zg, zl, zm]
     rfl
    refine yO (i := 21) (N := some 26) #[O,O,O,O,O,O,O,O,O,O,O,O,O,O,O,O,O,O,O,O,O,O,X,X,X] rfl rfl (yo HT_.out (by kernel_rfl)) (by decide) (fun K hK => ?_)
    refine yq Tryz.func15 (by kernel_rfl) rfl #[.agg #[.int .i64 a0_0, .int .i64 a0_1, .int .i64 a0_2, .int .i64 a0_3, .int .i64 a0_4, .slice A0_5 l0_5.length c0_5, .slice A0_6 l0_6.length c0_6, .slice A0_7 l0_7.length c0_7, .slice A0_8 l0_8.length c0_8, .slice A0_9 l0_9.length c0_9], .agg #[.int .i64 a1_0, .int .i64 a1_1, .int .i64 a1_2, .int .i64 a1_3, .int .i64 a1_4, .slice A1_5 l1_5.length c1_5, .slice A1_6 l1_6.length c1_6, .slice A1_7 l1_7.length c1_7, .slice A1_8 l1_8.length c1_8, .slice A1_9 l1_9.length c1_9]] (by rfl) rfl rfl (by (try simp only [Zh, List.map_cons, List.map_nil]); first | done | rfl | (simp only [List.length_drop, List.length_take]; rfl)) ?_
    with_reducible refine (zH.calls k a0_0 a0_1 a0_2 a0_3 a0_4 _ _ l0_5 _ _ l0_6 _ _ l0_7 _ _ l0_8 _ _ l0_9 a1_0 a1_1 a1_2 a1_3 a1_4 _ _ l1_5 _ _ l1_6 _ _ l1_7 _ _ l1_8 _ _ l1_9 t757 _ ?side1 ?side2 ?side3 ?side4 ?side5 ?side6 ?side7 ?side8 ?side9 ?side10 ?side11 ?side12 ?side13 ?side14 ?side15 ?side16 ?side17 ?side18 ?side19 ?side20 A11.out).mono ?_
    (case side1 => repeat (first | exact (Kd.C_below HR0_5.out HB.out) | (with_reducible refine Kd.C_alloc ?_ _) | (with_reducible refine Kd.C_drewN ?_ _) | (with_reducible refine Kd.C_drew ?_)))
    (case side2 => exact HC0_5.out)
    (case side3 => repeat (first | exact (Kd.C_below HR0_6.out HB.out) | (with_reducible refine Kd.C_alloc ?_ _) | (with_reducible refine Kd.C_drewN ?_ _) | (with_reducible refine Kd.C_drew ?_)))
    (case side4 => exact HC0_6.out)
    (case side5 => repeat (first | exact (Kd.C_below HR0_7.out HB.out) | (with_reducible refine Kd.C_alloc ?_ _) | (with_reducible refine Kd.C_drewN ?_ _) | (with_reducible refine Kd.C_drew ?_)))
    (case side6 => exact HC0_7.out)
    (case side7 => repeat (first | exact (Kd.C_below HR0_8.out HB.out) | (with_reducible refine Kd.C_alloc ?_ _) | (with_reducible refine Kd.C_drewN ?_ _) | (with_reducible refine Kd.C_drew ?_)))
    (case side8 => exact HC0_8.out)
    (case side9 => repeat (first | exact (Kd.C_below HR0_9.out HB.out) | (with_reducible refine Kd.C_alloc ?_ _) | (with_reducible refine Kd.C_drewN ?_ _) | (with_reducible refine Kd.C_drew ?_)))
    (case side10 => exact HC0_9.out)
    (case side11 => repeat (first | exact (Kd.C_below HR1_5.out HB.out) | (with_reducible refine Kd.C_alloc ?_ _) | (with_reducible refine Kd.C_drewN ?_ _) | (with_reducible refine Kd.C_drew ?_)))
    (case side12 => exact HC1_5.out)
    (case side13 => repeat (first | exact (Kd.C_below HR1_6.out HB.out) | (with_reducible refine Kd.C_alloc ?_ _) | (with_reducible refine Kd.C_drewN ?_ _) | (with_reducible refine Kd.C_drew ?_)))
    (case side14 => exact HC1_6.out)
    (case side15 => repeat (first | exact (Kd.C_below HR1_7.out HB.out) | (with_reducible refine Kd.C_alloc ?_ _) | (with_reducible refine Kd.C_drewN ?_ _) | (with_reducible refine Kd.C_drew ?_)))
    (case side16 => exact HC1_7.out)
    (case side17 => repeat (first | exact (Kd.C_below HR1_8.out HB.out) | (with_reducible refine Kd.C_alloc ?_ _) | (with_reducible refine Kd.C_drewN ?_ _) | (with_reducible refine Kd.C_drew ?_)))
    (case side18 => exact HC1_8.out)
    (case side19 => repeat (first | exact (Kd.C_below HR1_9.out HB.out) | (with_reducible refine Kd.C_alloc ?_ _) | (with_reducible refine Kd.C_drewN ?_ _) | (with_reducible refine Kd.C_drew ?_)))
    (case side20 => exact HC1_9.out)
    rintro e w20 ⟨rfl, hb⟩
    refine ⟨_, rfl, ?_⟩
    have n0_ := zc.mk (zx (g := gb750) (o := .cells #[.int .i64 a0_0, .int .i64 a0_1, .int .i64 a0_2, .int .i64 a0_3, .int .i64 a0_4, .slice A0_5 l0_5.length c0_5, .slice A0_6 l0_6.length c0_6, .slice A0_7 l0_7.length c0_7, .slice A0_8 l0_8.length c0_8, .slice A0_9 l0_9.length c0_9] 28 (0, 0)) (by (with_reducible repeat (first | refine zh ?_ _ | refine zj ?_ | refine zi ?_ _)); exact BK750.out) hb)
    have n1_ := zc.mk (zx (g := gb751) (o := .cells #[.int .i64 a1_0, .int .i64 a1_1, .int .i64 a1_2, .int .i64 a1_3, .int .i64 a1_4, .slice A1_5 l1_5.length c1_5, .slice A1_6 l1_6.length c1_6, .slice A1_7 l1_7.length c1_7, .slice A1_8 l1_8.length c1_8, .slice A1_9 l1_9.length c1_9] 28 (0, 0)) (by (with_reducible repeat (first | refine zh ?_ _ | refine zj ?_ | refine zi ?_ _)); exact BK751.out) hb)
    have n2_ := zc.mk (zs (by repeat (first | (with_reducible first | exact HB.out | apply zf | apply zd | apply ze | refine zg ?_ GE750.out | refine zg ?_ GE751.out) | exact HB.out)) hb)
    clear BK750
    clear BK751
    clear HB
    have BK750 := n0_
    have BK751 := n1_
    have HB := n2_
    clear n0_ n1_ n2_
    (try clear hb)
    (try clear hb2)
    (try clear hk)
    (try clear hi)
    refine hK.out _ _ ⟨(za BK750.out 0).trans rfl, (za BK750.out 1).trans rfl, (za BK750.out 2).trans rfl, (za BK750.out 3).trans rfl, (za BK750.out 4).trans rfl, (za BK750.out 5).trans rfl, (za BK750.out 6).trans rfl, (za BK750.out 7).trans rfl, (za BK750.out 8).trans rfl, (za BK750.out 9).trans rfl, (za BK751.out 0).trans rfl, (za BK751.out 1).trans rfl, (za BK751.out 2).trans rfl, (za BK751.out 3).trans rfl, (za BK751.out 4).trans rfl, (za BK751.out 5).trans rfl, (za BK751.out 6).trans rfl, (za BK751.out 7).trans rfl, (za BK751.out 8).trans rfl, (za BK751.out 9).trans rfl⟩ (fun hHeld => ?_)
    clear hK K
    refine yF (a' := ?_) ?_ ?_
    rotate_left
    ·show Act.put _ (some 26) _ = _
     simp only [Act.put, Ze, Zf, Zg, zl, zm]
     rfl
    refine zq (i := 22) (N := some 27) (v := ?_) (a' := ?_) #[O,O,O,O,O,O,O,O,O,O,O,O,O,O,O,O,O,O,O,O,O,O,O,X,X] rfl rfl (zo HT_.out (by kernel_rfl)) (fun _ _ _ h => h) (Or.inl ⟨by rfl, ?_⟩) ?_ ?_
    rotate_left
    ·intro w'
     go_simp
     with_reducible rfl
    rotate_left
    ·simp only [Act.put, Ze, Zf, Zg, zl, zm]
     rfl
    refine zq (i := 23) (N := some 28) (v := ?_) (a' := ?_) #[O,O,O,O,O,O,O,O,O,O,O,O,O,O,O,O,O,O,O,O,O,O,O,O,X] rfl rfl (zo HT_.out (by kernel_rfl)) (fun _ _ _ h => h) (Or.inl ⟨by rfl, ?_⟩) ?_ ?_
    rotate_left
    ·intro w'
     go_simp
     with_reducible rfl
    rotate_left
    ·simp only [Act.put, Ze, Zf, Zg, zl, zm]
     rfl
    refine zq (i := 24) (N := some 4) (v := ?_) (a' := ?_) #[O,O,O,O,O,O,O,O,O,O,O,O,O,O,O,O,O,O,O,O,O,O,O,O,O] rfl rfl (zo HT_.out (by kernel_rfl)) (fun _ _ _ h => h) (Or.inl ⟨by rfl, ?_⟩) ?_ ?_
    rotate_left
    ·intro w'
     go_simp
     with_reducible rfl
    rotate_left
    ·simp only [Act.put, Ze, Zf, Zg, zl, zm]
     rfl
    refine yZ (yE HT_.out (by kernel_rfl)) ?_
    try go_wp2
    go_ret
    exact ⟨by first | rfl | (simp [zu, zv] <;> rfl) | (simp [*, zu, zv] <;> rfl), by repeat (first | (with_reducible first | exact HB.out | apply zf | apply zd | apply ze | refine zg ?_ GE750.out | refine zg ?_ GE751.out) | exact HB.out)⟩
   ·replace c9 := Zk.mpr c9
    subst c9
    have H1 : (some false) = some r := by rw [if_neg (show ¬ (false = true) by decide)] at H; exact H
    clear H
    have H := H1
    clear H1
    obtain rfl := Option.some.inj H
    go_enter Tryz.func5, Tryz.ntmps5
    try go_wp2_with (first | ((with_reducible refine zB (N := 2) rfl ?_); refine zA ?hg (N := 2) ?hd (cs := #[.int .i64 a0_0, .int .i64 a0_1, .int .i64 a0_2, .int .i64 a0_3, .int .i64 a0_4, .slice A0_5 l0_5.length c0_5, .slice A0_6 l0_6.length c0_6, .slice A0_7 l0_7.length c0_7, .slice A0_8 l0_8.length c0_8, .slice A0_9 l0_9.length c0_9]) (t := 28) ?hr ?_; (case hd => rfl); (case hg => rfl); (case hr => first | (go_simp; done) | (go_simp; rfl)); intro gb750 hg w21 hbox hb; have n0_ := zc.mk (zs (by repeat (first | (with_reducible first | exact HB.out | apply zf | apply zd | apply ze) | exact HB.out)) hb); have n1_ := zc.mk (hbox); have n2_ := zc.mk ((by rw [hg]; exact (zr (by repeat (first | (with_reducible first | exact HB.out | apply zf | apply zd | apply ze) | exact HB.out))) : w.heap.size ≤ gb750)); have n3_ := zc.mk ((by rw [hg]; exact (zr (by repeat (first | (with_reducible first | exact HB.out | apply zf | apply zd | apply ze) | exact HB.out))) : w.heap.size ≤ gb750)); clear HB; have HB := n0_; have BK750 := n1_; have GW750 := n2_; have GE750 := n3_; clear n0_ n1_ n2_ n3_; clear hb hbox hg) | ((with_reducible refine zB (N := 3) rfl ?_); refine zA ?hg (N := 3) ?hd (cs := #[.int .i64 a1_0, .int .i64 a1_1, .int .i64 a1_2, .int .i64 a1_3, .int .i64 a1_4, .slice A1_5 l1_5.length c1_5, .slice A1_6 l1_6.length c1_6, .slice A1_7 l1_7.length c1_7, .slice A1_8 l1_8.length c1_8, .slice A1_9 l1_9.length c1_9]) (t := 28) ?hr ?_; (case hd => rfl); (case hg => rfl); (case hr => first | (go_simp; done) | (go_simp; rfl)); intro gb751 hg w22 hbox hb; have n0_ := zc.mk (zx (g := gb750) (o := .cells #[.int .i64 a0_0, .int .i64 a0_1, .int .i64 a0_2, .int .i64 a0_3, .int .i64 a0_4, .slice A0_5 l0_5.length c0_5, .slice A0_6 l0_6.length c0_6, .slice A0_7 l0_7.length c0_7, .slice A0_8 l0_8.length c0_8, .slice A0_9 l0_9.length c0_9] 28 (0, 0)) (by (with_reducible repeat (first | refine zh ?_ _ | refine zj ?_ | refine zi ?_ _)); exact BK750.out) hb); have n1_ := zc.mk (zs (by repeat (first | (with_reducible first | exact HB.out | apply zf | apply zd | apply ze | refine zg ?_ GE750.out) | exact HB.out)) hb); have n2_ := zc.mk (hbox); have n3_ := zc.mk ((by rw [hg]; exact (zr (by repeat (first | (with_reducible first | exact HB.out | apply zf | apply zd | apply ze | refine zg ?_ GE750.out) | exact HB.out))) : w.heap.size ≤ gb751)); have n4_ := zc.mk ((by rw [hg]; exact (zr (by repeat (first | (with_reducible first | exact HB.out | apply zf | apply zd | apply ze | refine zg ?_ GE750.out) | exact HB.out))) : w.heap.size ≤ gb751)); have n5_ := zc.mk ((by rw [hg]; exact Nat.ne_of_lt (zN (g := gb750) (o := .cells #[.int .i64 a0_0, .int .i64 a0_1, .int .i64 a0_2, .int .i64 a0_3, .int .i64 a0_4, .slice A0_5 l0_5.length c0_5, .slice A0_6 l0_6.length c0_6, .slice A0_7 l0_7.length c0_7, .slice A0_8 l0_8.length c0_8, .slice A0_9 l0_9.length c0_9] 28 (0, 0)) (by (with_reducible repeat (first | refine zh ?_ _ | refine zj ?_ | refine zi ?_ _)); exact BK750.out)) : gb750 ≠ gb751)); have n6_ := zc.mk ((by rw [hg]; exact Nat.ne_of_gt (zN (g := gb750) (o := .cells #[.int .i64 a0_0, .int .i64 a0_1, .int .i64 a0_2, .int .i64 a0_3, .int .i64 a0_4, .slice A0_5 l0_5.length c0_5, .slice A0_6 l0_6.length c0_6, .slice A0_7 l0_7.length c0_7, .slice A0_8 l0_8.length c0_8, .slice A0_9 l0_9.length c0_9] 28 (0, 0)) (by (with_reducible repeat (first | refine zh ?_ _ | refine zj ?_ | refine zi ?_ _)); exact BK750.out)) : gb751 ≠ gb750)); clear BK750; clear HB; have BK750 := n0_; have HB := n1_; have BK751 := n2_; have GW751 := n3_; have GE751 := n4_; have NB750_751 := n5_; have NB751_750 := n6_; clear n0_ n1_ n2_ n3_ n4_ n5_ n6_; clear hb hbox hg))
    have n0_ := zc.mk (zj BK750.out)
    have n1_ := zc.mk (zj BK751.out)
    have n2_ := zc.mk (ze HB.out)
    clear BK750
    clear BK751
    clear HB
    have BK750 := n0_
    have BK751 := n1_
    have HB := n2_
    clear n0_ n1_ n2_
    refine yK (n := 25) (S := fun w' => w'.cell? ⟨gb750, 0, none⟩ = some (.int .i64 a0_0) ∧ w'.cell? ⟨gb750, 1, none⟩ = some (.int .i64 a0_1) ∧ w'.cell? ⟨gb750, 2, none⟩ = some (.int .i64 a0_2) ∧ w'.cell? ⟨gb750, 3, none⟩ = some (.int .i64 a0_3) ∧ w'.cell? ⟨gb750, 4, none⟩ = some (.int .i64 a0_4) ∧ w'.cell? ⟨gb750, 5, none⟩ = some (.slice A0_5 l0_5.length c0_5) ∧ w'.cell? ⟨gb750, 6, none⟩ = some (.slice A0_6 l0_6.length c0_6) ∧ w'.cell? ⟨gb750, 7, none⟩ = some (.slice A0_7 l0_7.length c0_7) ∧ w'.cell? ⟨gb750, 8, none⟩ = some (.slice A0_8 l0_8.length c0_8) ∧ w'.cell? ⟨gb750, 9, none⟩ = some (.slice A0_9 l0_9.length c0_9) ∧ w'.cell? ⟨gb751, 0, none⟩ = some (.int .i64 a1_0) ∧ w'.cell? ⟨gb751, 1, none⟩ = some (.int .i64 a1_1) ∧ w'.cell? ⟨gb751, 2, none⟩ = some (.int .i64 a1_2) ∧ w'.cell? ⟨gb751, 3, none⟩ = some (.int .i64 a1_3) ∧ w'.cell? ⟨gb751, 4, none⟩ = some (.int .i64 a1_4) ∧ w'.cell? ⟨gb751, 5, none⟩ = some (.slice A1_5 l1_5.length c1_5) ∧ w'.cell? ⟨gb751, 6, none⟩ = some (.slice A1_6 l1_6.length c1_6) ∧ w'.cell? ⟨gb751, 7, none⟩ = some (.slice A1_7 l1_7.length c1_7) ∧ w'.cell? ⟨gb751, 8, none⟩ = some (.slice A1_8 l1_8.length c1_8) ∧ w'.cell? ⟨gb751, 9, none⟩ = some (.slice A1_9 l1_9.length c1_9)) (ds := []) #[X,X,X,X,X,X,X,X,X,X,X,X,X,X,X,X,X,X,X,X,X,X,X,X,X] (by kernel_rfl) rfl rfl ⟨(za BK750.out 0).trans rfl, (za BK750.out 1).trans rfl, (za BK750.out 2).trans rfl, (za BK750.out 3).trans rfl, (za BK750.out 4).trans rfl, (za BK750.out 5).trans rfl, (za BK750.out 6).trans rfl, (za BK750.out 7).trans rfl, (za BK750.out 8).trans rfl, (za BK750.out 9).trans rfl, (za BK751.out 0).trans rfl, (za BK751.out 1).trans rfl, (za BK751.out 2).trans rfl, (za BK751.out 3).trans rfl, (za BK751.out 4).trans rfl, (za BK751.out 5).trans rfl, (za BK751.out 6).trans rfl, (za BK751.out 7).trans rfl, (za BK751.out 8).trans rfl, (za BK751.out 9).trans rfl⟩ (fun hHeld => ?_); refine ym zU.tab1 zU.bits1 (fun HT_ HW_ => ?_)
    generalize w22.drew = w23 at BK750 BK751 HB hHeld ⊢
    refine yO (i := 0) (N := some 5) #[O,X,X,X,X,X,X,X,X,X,X,X,X,X,X,X,X,X,X,X,X,X,X,X,X] rfl rfl (yo HT_.out (by kernel_rfl)) (by decide) (fun K hK => ?_)
    refine yq Tryz.func9 (by kernel_rfl) rfl #[] (by rfl) rfl rfl (by (try simp only [Zh, List.map_cons, List.map_nil]); first | done | rfl | (simp only [List.length_drop, List.length_take]; rfl)) ?_
    with_reducible refine (yj.calls  true _ A3.out).mono ?_
    rintro e w24 ⟨rfl, hb⟩
    refine ⟨_, rfl, ?_⟩
    have n0_ := zc.mk (zx (g := gb750) (o := .cells #[.int .i64 a0_0, .int .i64 a0_1, .int .i64 a0_2, .int .i64 a0_3, .int .i64 a0_4, .slice A0_5 l0_5.length c0_5, .slice A0_6 l0_6.length c0_6, .slice A0_7 l0_7.length c0_7, .slice A0_8 l0_8.length c0_8, .slice A0_9 l0_9.length c0_9] 28 (0, 0)) (by (with_reducible repeat (first | refine zh ?_ _ | refine zj ?_ | refine zi ?_ _)); exact BK750.out) hb)
    have n1_ := zc.mk (zx (g := gb751) (o := .cells #[.int .i64 a1_0, .int .i64 a1_1, .int .i64 a1_2, .int .i64 a1_3, .int .i64 a1_4, .slice A1_5 l1_5.length c1_5, .slice A1_6 l1_6.length c1_6, .slice A1_7 l1_7.length c1_7, .slice A1_8 l1_8.length c1_8, .slice A1_9 l1_9.length c1_9] 28 (0, 0)) (by (with_reducible repeat (first | refine zh ?_ _ | refine zj ?_ | refine zi ?_ _)); exact BK751.out) hb)
    have n2_ := zc.mk (zs (by repeat (first | (with_reducible first | exact HB.out | apply zf | apply zd | apply ze | refine zg ?_ GE750.out | refine zg ?_ GE751.out) | exact HB.out)) hb)
    clear BK750
    clear BK751
    clear HB
    have BK750 := n0_
    have BK751 := n1_
    have HB := n2_
    clear n0_ n1_ n2_
    (try clear hb)
    (try clear hb2)
    (try clear hk)
    (try clear hi)
    refine hK.out _ _ ⟨(za BK750.out 0).trans rfl, (za BK750.out 1).trans rfl, (za BK750.out 2).trans rfl, (za BK750.out 3).trans rfl, (za BK750.out 4).trans rfl, (za BK750.out 5).trans rfl, (za BK750.out 6).trans rfl, (za BK750.out 7).trans rfl, (za BK750.out 8).trans rfl, (za BK750.out 9).trans rfl, (za BK751.out 0).trans rfl, (za BK751.out 1).trans rfl, (za BK751.out 2).trans rfl, (za BK751.out 3).trans rfl, (za BK751.out 4).trans rfl, (za BK751.out 5).trans rfl, (za BK751.out 6).trans rfl, (za BK751.out 7).trans rfl, (za BK751.out 8).trans rfl, (za BK751.out 9).trans rfl⟩ (fun hHeld => ?_)
    clear hK K
    refine yF (a' := ?_) ?_ ?_
    rotate_left
    ·show Act.put _ (some 5) _ = _
     simp only [Act.put, Ze, Zf, Zg, zl, zm]
     rfl
    refine zq (i := 1) (N := some 6) (v := ?_) (a' := ?_) #[O,O,X,X,X,X,X,X,X,X,X,X,X,X,X,X,X,X,X,X,X,X,X,X,X] rfl rfl (zo HT_.out (by kernel_rfl)) (fun _ _ _ h => h) (Or.inl ⟨by rfl, ?_⟩) ?_ ?_
    rotate_left
    ·intro w'
     go_simp
     with_reducible rfl
    rotate_left
    ·simp only [Act.put, Ze, Zf, Zg, zl, zm]
     rfl
    refine take_ (i := 2) (N := some 7) (v := ?_) (a' := ?_) #[O,O,O,X,X,X,X,X,X,X,X,X,X,X,X,X,X,X,X,X,X,X,X,X,X] rfl rfl (zQ HT_.out HW_.out (by kernel_rfl)) (fun _ _ _ h => h) (Or.inl ⟨by rfl, ?_⟩) hHeld ?_ ?_
    rotate_left
    ·rintro w' ⟨s0, s1, s2, s3, s4, s5, s6, s7, s8, s9, s10, s11, s12, s13, s14, s15, s16, s17, s18, s19⟩
     go_simp
     with_reducible rfl
    rotate_left
    ·simp only [Act.put, Ze, Zf, Zg, zl, zm]
     rfl
    refine take_ (i := 3) (N := some 8) (v := ?_) (a' := ?_) #[O,O,O,O,X,X,X,X,X,X,X,X,X,X,X,X,X,X,X,X,X,X,X,X,X] rfl rfl (zQ HT_.out HW_.out (by kernel_rfl)) (fun _ _ _ h => h) (Or.inl ⟨by rfl, ?_⟩) hHeld ?_ ?_
    rotate_left
    ·rintro w' ⟨s0, s1, s2, s3, s4, s5, s6, s7, s8, s9, s10, s11, s12, s13, s14, s15, s16, s17, s18, s19⟩
     go_simp
     with_reducible rfl
    rotate_left
    ·simp only [Act.put, Ze, Zf, Zg, zl, zm]
     rfl
    refine take_ (i := 5) (N := some 10) (v := ?_) (a' := ?_) #[O,O,O,O,X,O,X,X,X,X,X,X,X,X,X,X,X,X,X,X,X,X,X,X,X] rfl rfl (zQ HT_.out HW_.out (by kernel_rfl)) (fun _ _ _ h => h) (Or.inl ⟨by rfl, ?_⟩) hHeld ?_ ?_
    rotate_left
    ·rintro w' ⟨s0, s1, s2, s3, s4, s5, s6, s7, s8, s9, s10, s11, s12, s13, s14, s15, s16, s17, s18, s19⟩
     go_simp
     with_reducible rfl
    rotate_left
    ·simp only [Act.put, Ze, Zf, Zg, zl, zm]
     rfl
    refine take_ (i := 6) (N := some 11) (v := ?_) (a' := ?_) #[O,O,O,O,X,O,O,X,X,X,X,X,X,X,X,X,X,X,X,X,X,X,X,X,X] rfl rfl (zQ HT_.out HW_.out (by kernel_rfl)) (fun _ _ _ h => h) (Or.inl ⟨by rfl, ?_⟩) hHeld ?_ ?_
    rotate_left
    ·rintro w' ⟨s0, s1, s2, s3, s4, s5, s6, s7, s8, s9, s10, s11, s12, s13, s14, s15, s16, s17, s18, s19⟩
     go_simp
     with_reducible rfl
    rotate_left
    ·simp only [Act.put, Ze, Zf, Zg, zl, zm]
     rfl
    refine yO (i := 4) (N := some 9) #[O,O,O,O,O,O,O,X,X,X,X,X,X,X,X,X,X,X,X,X,X,X,X,X,X] rfl rfl (yo HT_.out (by kernel_rfl)) (by decide) (fun K hK => ?_)
    refine yq Tryz.func15 (by kernel_rfl) rfl #[.agg #[.int .i64 a0_0, .int .i64 a0_1, .int .i64 a0_2, .int .i64 a0_3, .int .i64 a0_4, .slice A0_5 l0_5.length c0_5, .slice A0_6 l0_6.length c0_6, .slice A0_7 l0_7.length c0_7, .slice A0_8 l0_8.length c0_8, .slice A0_9 l0_9.length c0_9], .agg #[.int .i64 a1_0, .int .i64 a1_1, .int .i64 a1_2, .int .i64 a1_3, .int .i64 a1_4, .slice A1_5 l1_5.length c1_5, .slice A1_6 l1_6.length c1_6, .slice A1_7 l1_7.length c1_7, .slice A1_8 l1_8.length c1_8, .slice A1_9 l1_9.length c1_9]] (by rfl) rfl rfl (by (try simp only [Zh, List.map_cons, List.map_nil]); first | done | rfl | (simp only [List.length_drop, List.length_take]; rfl)) ?_
    with_reducible refine (zH.calls k a0_0 a0_1 a0_2 a0_3 a0_4 _ _ l0_5 _ _ l0_6 _ _ l0_7 _ _ l0_8 _ _ l0_9 a1_0 a1_1 a1_2 a1_3 a1_4 _ _ l1_5 _ _ l1_6 _ _ l1_7 _ _ l1_8 _ _ l1_9 t753 _ ?side1 ?side2 ?side3 ?side4 ?side5 ?side6 ?side7 ?side8 ?side9 ?side10 ?side11 ?side12 ?side13 ?side14 ?side15 ?side16 ?side17 ?side18 ?side19 ?side20 A5.out).mono ?_
    (case side1 => repeat (first | exact (Kd.C_below HR0_5.out HB.out) | (with_reducible refine Kd.C_alloc ?_ _) | (with_reducible refine Kd.C_drewN ?_ _) | (with_reducible refine Kd.C_drew ?_)))
    (case side2 => exact HC0_5.out)
    (case side3 => repeat (first | exact (Kd.C_below HR0_6.out HB.out) | (with_reducible refine Kd.C_alloc ?_ _) | (with_reducible refine Kd.C_drewN ?_ _) | (with_reducible refine Kd.C_drew ?_)))
    (case side4 => exact HC0_6.out)
    (case side5 => repeat (first | exact (Kd.C_below HR0_7.out HB.out) | (with_reducible refine Kd.C_alloc ?_ _) | (with_reducible refine Kd.C_drewN ?_ _) | (with_reducible refine Kd.C_drew ?_)))
    (case side6 => exact HC0_7.out)
    (case side7 => repeat (first | exact (Kd.C_below HR0_8.out HB.out) | (with_reducible refine Kd.C_alloc ?_ _) | (with_reducible refine Kd.C_drewN ?_ _) | (with_reducible refine Kd.C_drew ?_)))
    (case side8 => exact HC0_8.out)
    (case side9 => repeat (first | exact (Kd.C_below HR0_9.out HB.out) | (with_reducible refine Kd.C_alloc ?_ _) | (with_reducible refine Kd.C_drewN ?_ _) | (with_reducible refine Kd.C_drew ?_)))
    (case side10 => exact HC0_9.out)
    (case side11 => repeat (first | exact (Kd.C_below HR1_5.out HB.out) | (with_reducible refine Kd.C_alloc ?_ _) | (with_reducible refine Kd.C_drewN ?_ _) | (with_reducible refine Kd.C_drew ?_)))
    (case side12 => exact HC1_5.out)
    (case side13 => repeat (first | exact (Kd.C_below HR1_6.out HB.out) | (with_reducible refine Kd.C_alloc ?_ _) | (with_reducible refine Kd.C_drewN ?_ _) | (with_reducible refine Kd.C_drew ?_)))
    (case side14 => exact HC1_6.out)
    (case side15 => repeat (first | exact (Kd.C_below HR1_7.out HB.out) | (with_reducible refine Kd.C_alloc ?_ _) | (with_reducible refine Kd.C_drewN ?_ _) | (with_reducible refine Kd.C_drew ?_)))
    (case side16 => exact HC1_7.out)
    (case side17 => repeat (first | exact (Kd.C_below HR1_8.out HB.out) | (with_reducible refine Kd.C_alloc ?_ _) | (with_reducible refine Kd.C_drewN ?_ _) | (with_reducible refine Kd.C_drew ?_)))
    (case side18 => exact HC1_8.out)
    (case side19 => repeat (first | exact (Kd.C_below HR1_9.out HB.out) | (with_reducible refine Kd.C_alloc ?_ _) | (with_reducible refine Kd.C_drewN ?_ _) | (with_reducible refine Kd.C_drew ?_)))
    (case side20 => exact HC1_9.out)
    rintro e w25 ⟨rfl, hb⟩
    refine ⟨_, rfl, ?_⟩
    have n0_ := zc.mk (zx (g := gb750) (o := .cells #[.int .i64 a0_0, .int .i64 a0_1, .int .i64 a0_2, .int .i64 a0_3, .int .i64 a0_4, .slice A0_5 l0_5.length c0_5, .slice A0_6 l0_6.length c0_6, .slice A0_7 l0_7.length c0_7, .slice A0_8 l0_8.length c0_8, .slice A0_9 l0_9.length c0_9] 28 (0, 0)) (by (with_reducible repeat (first | refine zh ?_ _ | refine zj ?_ | refine zi ?_ _)); exact BK750.out) hb)
    have n1_ := zc.mk (zx (g := gb751) (o := .cells #[.int .i64 a1_0, .int .i64 a1_1, .int .i64 a1_2, .int .i64 a1_3, .int .i64 a1_4, .slice A1_5 l1_5.length c1_5, .slice A1_6 l1_6.length c1_6, .slice A1_7 l1_7.length c1_7, .slice A1_8 l1_8.length c1_8, .slice A1_9 l1_9.length c1_9] 28 (0, 0)) (by (with_reducible repeat (first | refine zh ?_ _ | refine zj ?_ | refine zi ?_ _)); exact BK751.out) hb)
    have n2_ := zc.mk (zs (by repeat (first | (with_reducible first | exact HB.out | apply zf | apply zd | apply ze | refine zg ?_ GE750.out | refine zg ?_ GE751.out) | exact HB.out)) hb)
    clear BK750
    clear BK751
    clear HB
    have BK750 := n0_
    have BK751 := n1_
    have HB := n2_
    clear n0_ n1_ n2_
    (try clear hb)
    (try clear hb2)
    (try clear hk)
    (try clear hi)
    refine hK.out _ _ ⟨(za BK750.out 0).trans rfl, (za BK750.out 1).trans rfl, (za BK750.out 2).trans rfl, (za BK750.out 3).trans rfl, (za BK750.out 4).trans rfl, (za BK750.out 5).trans rfl, (za BK750.out 6).trans rfl, (za BK750.out 7).trans rfl, (za BK750.out 8).trans rfl, (za BK750.out 9).trans rfl, (za BK751.out 0).trans rfl, (za BK751.out 1).trans rfl, (za BK751.out 2).trans rfl, (za BK751.out 3).trans rfl, (za BK751.out 4).trans rfl, (za BK751.out 5).trans rfl, (za BK751.out 6).trans rfl, (za BK751.out 7).trans rfl, (za BK751.out 8).trans rfl, (za BK751.out 9).trans rfl⟩ (fun hHeld => ?_)
    clear hK K
    refine yF (a' := ?_) ?_ ?_
    rotate_left
    ·show Act.put _ (some 9) _ = _
     simp only [Act.put, Ze, Zf, Zg, zl, zm]
     rfl
    refine yO (i := 7) (N := some 12) #[O,O,O,O,O,O,O,O,X,X,X,X,X,X,X,X,X,X,X,X,X,X,X,X,X] rfl rfl (yo HT_.out (by kernel_rfl)) (by decide) (fun K hK => ?_)
    refine yq Tryz.func14 (by kernel_rfl) rfl #[.agg #[.int .i64 a0_0, .int .i64 a0_1, .int .i64 a0_2, .int .i64 a0_3, .int .i64 a0_4, .slice A0_5 l0_5.length c0_5, .slice A0_6 l0_6.length c0_6, .slice A0_7 l0_7.length c0_7, .slice A0_8 l0_8.length c0_8, .slice A0_9 l0_9.length c0_9], .agg #[.int .i64 a1_0, .int .i64 a1_1, .int .i64 a1_2, .int .i64 a1_3, .int .i64 a1_4, .slice A1_5 l1_5.length c1_5, .slice A1_6 l1_6.length c1_6, .slice A1_7 l1_7.length c1_7, .slice A1_8 l1_8.length c1_8, .slice A1_9 l1_9.length c1_9]] (by rfl) rfl rfl (by (try simp only [Zh, List.map_cons, List.map_nil]); first | done | rfl | (simp only [List.length_drop, List.length_take]; rfl)) ?_
    with_reducible refine (yi.calls k a0_0 a0_1 a0_2 a0_3 a0_4 _ _ l0_5 _ _ l0_6 _ _ l0_7 _ _ l0_8 _ _ l0_9 a1_0 a1_1 a1_2 a1_3 a1_4 _ _ l1_5 _ _ l1_6 _ _ l1_7 _ _ l1_8 _ _ l1_9 t754 _ ?side1 ?side2 ?side3 ?side4 ?side5 ?side6 ?side7 ?side8 ?side9 ?side10 ?side11 ?side12 ?side13 ?side14 ?side15 ?side16 ?side17 ?side18 ?side19 ?side20 A6.out).mono ?_
    (case side1 => repeat (first | exact (Kd.C_below HR0_5.out HB.out) | (with_reducible refine Kd.C_alloc ?_ _) | (with_reducible refine Kd.C_drewN ?_ _) | (with_reducible refine Kd.C_drew ?_)))
    (case side2 => exact HC0_5.out)
    (case side3 => repeat (first | exact (Kd.C_below HR0_6.out HB.out) | (with_reducible refine Kd.C_alloc ?_ _) | (with_reducible refine Kd.C_drewN ?_ _) | (with_reducible refine Kd.C_drew ?_)))
    (case side4 => exact HC0_6.out)
    (case side5 => repeat (first | exact (Kd.C_below HR0_7.out HB.out) | (with_reducible refine Kd.C_alloc ?_ _) | (with_reducible refine Kd.C_drewN ?_ _) | (with_reducible refine Kd.C_drew ?_)))
    (case side6 => exact HC0_7.out)
    (case side7 => repeat (first | exact (Kd.C_below HR0_8.out HB.out) | (with_reducible refine Kd.C_alloc ?_ _) | (with_reducible refine Kd.C_drewN ?_ _) | (with_reducible refine Kd.C_drew ?_)))
    (case side8 => exact HC0_8.out)
    (case side9 => repeat (first | exact (Kd.C_below HR0_9.out HB.out) | (with_reducible refine Kd.C_alloc ?_ _) | (with_reducible refine Kd.C_drewN ?_ _) | (with_reducible refine Kd.C_drew ?_)))
    (case side10 => exact HC0_9.out)
    (case side11 => repeat (first | exact (Kd.C_below HR1_5.out HB.out) | (with_reducible refine Kd.C_alloc ?_ _) | (with_reducible refine Kd.C_drewN ?_ _) | (with_reducible refine Kd.C_drew ?_)))
    (case side12 => exact HC1_5.out)
    (case side13 => repeat (first | exact (Kd.C_below HR1_6.out HB.out) | (with_reducible refine Kd.C_alloc ?_ _) | (with_reducible refine Kd.C_drewN ?_ _) | (with_reducible refine Kd.C_drew ?_)))
    (case side14 => exact HC1_6.out)
    (case side15 => repeat (first | exact (Kd.C_below HR1_7.out HB.out) | (with_reducible refine Kd.C_alloc ?_ _) | (with_reducible refine Kd.C_drewN ?_ _) | (with_reducible refine Kd.C_drew ?_)))
    (case side16 => exact HC1_7.out)
    (case side17 => repeat (first | exact (Kd.C_below HR1_8.out HB.out) | (with_reducible refine Kd.C_alloc ?_ _) | (with_reducible refine Kd.C_drewN ?_ _) | (with_reducible refine Kd.C_drew ?_)))
    (case side18 => exact HC1_8.out)
    (case side19 => repeat (first | exact (Kd.C_below HR1_9.out HB.out) | (with_reducible refine Kd.C_alloc ?_ _) | (with_reducible refine Kd.C_drewN ?_ _) | (with_reducible refine Kd.C_drew ?_)))
    (case side20 => exact HC1_9.out)
    rintro e w26 ⟨rfl, hb⟩
    refine ⟨_, rfl, ?_⟩
    have n0_ := zc.mk (zx (g := gb750) (o := .cells #[.int .i64 a0_0, .int .i64 a0_1, .int .i64 a0_2, .int .i64 a0_3, .int .i64 a0_4, .slice A0_5 l0_5.length c0_5, .slice A0_6 l0_6.length c0_6, .slice A0_7 l0_7.length c0_7, .slice A0_8 l0_8.length c0_8, .slice A0_9 l0_9.length c0_9] 28 (0, 0)) (by (with_reducible repeat (first | refine zh ?_ _ | refine zj ?_ | refine zi ?_ _)); exact BK750.out) hb)
    have n1_ := zc.mk (zx (g := gb751) (o := .cells #[.int .i64 a1_0, .int .i64 a1_1, .int .i64 a1_2, .int .i64 a1_3, .int .i64 a1_4, .slice A1_5 l1_5.length c1_5, .slice A1_6 l1_6.length c1_6, .slice A1_7 l1_7.length c1_7, .slice A1_8 l1_8.length c1_8, .slice A1_9 l1_9.length c1_9] 28 (0, 0)) (by (with_reducible repeat (first | refine zh ?_ _ | refine zj ?_ | refine zi ?_ _)); exact BK751.out) hb)
    have n2_ := zc.mk (zs (by repeat (first | (with_reducible first | exact HB.out | apply zf | apply zd | apply ze | refine zg ?_ GE750.out | refine zg ?_ GE751.out) | exact HB.out)) hb)
    clear BK750
    clear BK751
    clear HB
    have BK750 := n0_
    have BK751 := n1_
    have HB := n2_
    clear n0_ n1_ n2_
    (try clear hb)
    (try clear hb2)
    (try clear hk)
    (try clear hi)
    refine hK.out _ _ ⟨(za BK750.out 0).trans rfl, (za BK750.out 1).trans rfl, (za BK750.out 2).trans rfl, (za BK750.out 3).trans rfl, (za BK750.out 4).trans rfl, (za BK750.out 5).trans rfl, (za BK750.out 6).trans rfl, (za BK750.out 7).trans rfl, (za BK750.out 8).trans rfl, (za BK750.out 9).trans rfl, (za BK751.out 0).trans rfl, (za BK751.out 1).trans rfl, (za BK751.out 2).trans rfl, (za BK751.out 3).trans rfl, (za BK751.out 4).trans rfl, (za BK751.out 5).trans rfl, (za BK751.out 6).trans rfl, (za BK751.out 7).trans rfl, (za BK751.out 8).trans rfl, (za BK751.out 9).trans rfl⟩ (fun hHeld => ?_)
    clear hK K
    refine yF (a' := ?_) ?_ ?_
    rotate_left
    ·show Act.put _ (some 12) _ = _
     simp only [Act.put, Ze, Zf, Zg, zl, zm]
     rfl
    refine zq (i := 8) (N := some 13) (v := ?_) (a' := ?_) #[O,O,O,O,O,O,O,O,O,X,X,X,X,X,X,X,X,X,X,X,X,X,X,X,X] rfl rfl (zo HT_.out (by kernel_rfl)) (fun _ _ _ h => h) (Or.inl ⟨by rfl, ?_⟩) ?_ ?_
    rotate_left
    ·intro w'
     go_simp
     with_reducible rfl
    rotate_left
    ·simp only [Act.put, Ze, Zf, Zg, zl, zm]
     rfl
    refine zq (i := 9) (N := some 14) (v := ?_) (a' := ?_) #[O,O,O,O,O,O,O,O,O,O,X,X,X,X,X,X,X,X,X,X,X,X,X,X,X] rfl rfl (zo HT_.out (by kernel_rfl)) (fun _ _ _ h => h) (Or.inl ⟨by rfl, ?_⟩) ?_ ?_
    rotate_left
    ·intro w'
     go_simp
     with_reducible rfl
    rotate_left
    ·simp only [Act.put, Ze, Zf, Zg, zl, zm]
     rfl
    refine zq (i := 10) (N := some 15) (v := ?_) (a' := ?_) #[O,O,O,O,O,O,O,O,O,O,O,X,X,X,X,X,X,X,X,X,X,X,X,X,X] rfl rfl (zo HT_.out (by kernel_rfl)) (fun _ _ _ h => h) (Or.inl ⟨by rfl, ?_⟩) ?_ ?_
    rotate_left
    ·intro w'
     go_simp
     with_reducible rfl
    rotate_left
    ·simp only [Act.put, Ze, Zf, Zg, zl, zm]
     rfl
    refine take_ (i := 11) (N := some 16) (v := ?_) (a' := ?_) #[O,O,O,O,O,O,O,O,O,O,O,O,X,X,X,X,X,X,X,X,X,X,X,X,X] rfl rfl (zQ HT_.out HW_.out (by kernel_rfl)) (fun _ _ _ h => h) (Or.inl ⟨by rfl, ?_⟩) hHeld ?_ ?_
    rotate_left
    ·rintro w' ⟨s0, s1, s2, s3, s4, s5, s6, s7, s8, s9, s10, s11, s12, s13, s14, s15, s16, s17, s18, s19⟩
     go_simp
     with_reducible rfl
    rotate_left
    ·simp only [Act.put, Ze, Zf, Zg, zl, zm]
     rfl
    refine take_ (i := 12) (N := some 17) (v := ?_) (a' := ?_) #[O,O,O,O,O,O,O,O,O,O,O,O,O,X,X,X,X,X,X,X,X,X,X,X,X] rfl rfl (zQ HT_.out HW_.out (by kernel_rfl)) (fun _ _ _ h => h) (Or.inl ⟨by rfl, ?_⟩) hHeld ?_ ?_
    rotate_left
    ·rintro w' ⟨s0, s1, s2, s3, s4, s5, s6, s7, s8, s9, s10, s11, s12, s13, s14, s15, s16, s17, s18, s19⟩
     go_simp
     with_reducible rfl
    rotate_left
    ·simp only [Act.put, Ze, Zf, Zg, zl, zm]
     rfl
    refine yO (i := 13) (N := some 18) #[O,O,O,O,O,O,O,O,O,O,O,O,O,O,X,X,X,X,X,X,X,X,X,X,X] rfl rfl (yo HT_.out (by kernel_rfl)) (by decide) (fun K hK => ?_)
    refine yq Tryz.func15 (by kernel_rfl) rfl #[.agg #[.int .i64 a0_0, .int .i64 a0_1, .int .i64 a0_2, .int .i64 a0_3, .int .i64 a0_4, .slice A0_5 l0_5.length c0_5, .slice A0_6 l0_6.length c0_6, .slice A0_7 l0_7.length c0_7, .slice A0_8 l0_8.length c0_8, .slice A0_9 l0_9.length c0_9], .agg #[.int .i64 a0_0, .int .i64 a0_1, .int .i64 a0_2, .int .i64 a0_3, .int .i64 a0_4, .slice A0_5 l0_5.length c0_5, .slice A0_6 l0_6.length c0_6, .slice A0_7 l0_7.length c0_7, .slice A0_8 l0_8.length c0_8, .slice A0_9 l0_9.length c0_9]] (by rfl) rfl rfl (by (try simp only [Zh, List.map_cons, List.map_nil]); first | done | rfl | (simp only [List.length_drop, List.length_take]; rfl)) ?_
    with_reducible refine (zH.calls k a0_0 a0_1 a0_2 a0_3 a0_4 _ _ l0_5 _ _ l0_6 _ _ l0_7 _ _ l0_8 _ _ l0_9 a0_0 a0_1 a0_2 a0_3 a0_4 _ _ l0_5 _ _ l0_6 _ _ l0_7 _ _ l0_8 _ _ l0_9 false _ ?side1 ?side2 ?side3 ?side4 ?side5 ?side6 ?side7 ?side8 ?side9 ?side10 ?side11 ?side12 ?side13 ?side14 ?side15 ?side16 ?side17 ?side18 ?side19 ?side20 A8.out).mono ?_
    (case side1 => repeat (first | exact (Kd.C_below HR0_5.out HB.out) | (with_reducible refine Kd.C_alloc ?_ _) | (with_reducible refine Kd.C_drewN ?_ _) | (with_reducible refine Kd.C_drew ?_)))
    (case side2 => exact HC0_5.out)
    (case side3 => repeat (first | exact (Kd.C_below HR0_6.out HB.out) | (with_reducible refine Kd.C_alloc ?_ _) | (with_reducible refine Kd.C_drewN ?_ _) | (with_reducible refine Kd.C_drew ?_)))
    (case side4 => exact HC0_6.out)
    (case side5 => repeat (first | exact (Kd.C_below HR0_7.out HB.out) | (with_reducible refine Kd.C_alloc ?_ _) | (with_reducible refine Kd.C_drewN ?_ _) | (with_reducible refine Kd.C_drew ?_)))
    (case side6 => exact HC0_7.out)
    (case side7 => repeat (first | exact (Kd.C_below HR0_8.out HB.out) | (with_reducible refine Kd.C_alloc ?_ _) | (with_reducible refine Kd.C_drewN ?_ _) | (with_reducible refine Kd.C_drew ?_)))
    (case side8 => exact HC0_8.out)
    (case side9 => repeat (first | exact (Kd.C_below HR0_9.out HB.out) | (with_reducible refine Kd.C_alloc ?_ _) | (with_reducible refine Kd.C_drewN ?_ _) | (with_reducible refine Kd.C_drew ?_)))
    (case side10 => exact HC0_9.out)
    (case side11 => repeat (first | exact (Kd.C_below HR0_5.out HB.out) | (with_reducible refine Kd.C_alloc ?_ _) | (with_reducible refine Kd.C_drewN ?_ _) | (with_reducible refine Kd.C_drew ?_)))
    (case side12 => exact HC0_5.out)
    (case side13 => repeat (first | exact (Kd.C_below HR0_6.out HB.out) | (with_reducible refine Kd.C_alloc ?_ _) | (with_reducible refine Kd.C_drewN ?_ _) | (with_reducible refine Kd.C_drew ?_)))
    (case side14 => exact HC0_6.out)
    (case side15 => repeat (first | exact (Kd.C_below HR0_7.out HB.out) | (with_reducible refine Kd.C_alloc ?_ _) | (with_reducible refine Kd.C_drewN ?_ _) | (with_reducible refine Kd.C_drew ?_)))
    (case side16 => exact HC0_7.out)
    (case side17 => repeat (first | exact (Kd.C_below HR0_8.out HB.out) | (with_reducible refine Kd.C_alloc ?_ _) | (with_reducible refine Kd.C_drewN ?_ _) | (with_reducible refine Kd.C_drew ?_)))
    (case side18 => exact HC0_8.out)
    (case side19 => repeat (first | exact (Kd.C_below HR0_9.out HB.out) | (with_reducible refine Kd.C_alloc ?_ _) | (with_reducible refine Kd.C_drewN ?_ _) | (with_reducible refine Kd.C_drew ?_)))
    (case side20 => exact HC0_9.out)
    rintro e w27 ⟨rfl, hb⟩
    refine ⟨_, rfl, ?_⟩
    have n0_ := zc.mk (zx (g := gb750) (o := .cells #[.int .i64 a0_0, .int .i64 a0_1, .int .i64 a0_2, .int .i64 a0_3, .int .i64 a0_4, .slice A0_5 l0_5.length c0_5, .slice A0_6 l0_6.length c0_6, .slice A0_7 l0_7.length c0_7, .slice A0_8 l0_8.length c0_8, .slice A0_9 l0_9.length c0_9] 28 (0, 0)) (by (with_reducible repeat (first | refine zh ?_ _ | refine zj ?_ | refine zi ?_ _)); exact BK750.out) hb)
    have n1_ := zc.mk (zx (g := gb751) (o := .cells #[.int .i64 a1_0, .int .i64 a1_1, .int .i64 a1_2, .int .i64 a1_3, .int .i64 a1_4, .slice A1_5 l1_5.length c1_5, .slice A1_6 l1_6.length c1_6, .slice A1_7 l1_7.length c1_7, .slice A1_8 l1_8.length c1_8, .slice A1_9 l1_9.length c1_9] 28 (0, 0)) (by (with_reducible repeat (first | refine zh ?_ _ | refine zj ?_ | refine zi ?_ _)); exact BK751.out) hb)
    have n2_ := zc.mk (zs (by repeat (first | (with_reducible first | exact HB.out | apply zf | apply zd | apply ze | refine zg ?_ GE750.out | refine zg ?_ GE751.out) | exact HB.out)) hb)
    clear BK750
    clear BK751
    clear HB
    have BK750 := n0_
    have BK751 := n1_
    have HB := n2_
    clear n0_ n1_ n2_
    (try clear hb)
    (try clear hb2)
    (try clear hk)
    (try clear hi)
    refine hK.out _ _ ⟨(za BK750.out 0).trans rfl, (za BK750.out 1).trans rfl, (za BK750.out 2).trans rfl, (za BK750.out 3).trans rfl, (za BK750.out 4).trans rfl, (za BK750.out 5).trans rfl, (za BK750.out 6).trans rfl, (za BK750.out 7).trans rfl, (za BK750.out 8).trans rfl, (za BK750.out 9).trans rfl, (za BK751.out 0).trans rfl, (za BK751.out 1).trans rfl, (za BK751.out 2).trans rfl, (za BK751.out 3).trans rfl, (za BK751.out 4).trans rfl, (za BK751.out 5).trans rfl, (za BK751.out 6).trans rfl, (za BK751.out 7).trans rfl, (za BK751.out 8).trans rfl, (za BK751.out 9).trans rfl⟩ (fun hHeld => ?_)
    clear hK K
    refine yF (a' := ?_) ?_ ?_
    rotate_left
    ·show Act.put _ (some 18) _ = _
     simp only [Act.put, Ze, Zf, Zg, zl, zm]
     rfl
    refine zq (i := 14) (N := some 19) (v := ?_) (a' := ?_) #[O,O,O,O,O,O,O,O,O,O,O,O,O,O,O,X,X,X,X,X,X,X,X,X,X] rfl rfl (zo HT_.out (by kernel_rfl)) (fun _ _ _ h => h) (Or.inl ⟨by rfl, ?_⟩) ?_ ?_
    rotate_left
    ·intro w'
     go_simp
     with_reducible rfl
    rotate_left
    ·simp only [Act.put, Ze, Zf, Zg, zl, zm]
     rfl
    refine zq (i := 15) (N := some 20) (v := ?_) (a' := ?_) #[O,O,O,O,O,O,O,O,O,O,O,O,O,O,O,O,X,X,X,X,X,X,X,X,X] rfl rfl (zo HT_.out (by kernel_rfl)) (fun _ _ _ h => h) (Or.inl ⟨by rfl, ?_⟩) ?_ ?_
    rotate_left
    ·intro w'
     go_simp
     with_reducible rfl
    rotate_left
    ·simp only [Act.put, Ze, Zf, Zg, zl, zm]
     rfl
    refine zq (i := 16) (N := some 21) (v := undef) (a' := ?_) #[O,O,O,O,O,O,O,O,O,O,O,O,O,O,O,O,O,X,X,X,X,X,X,X,X] rfl rfl (zo HT_.out (by kernel_rfl)) (fun _ _ _ h => h) (Or.inr ⟨by rfl, rfl⟩) ?_ ?_
    rotate_left
    ·simp only [Act.put, Ze, Zf, Zg, zl, zm]
     rfl
    refine zq (i := 17) (N := some 22) (v := undef) (a' := ?_) #[O,O,O,O,O,O,O,O,O,O,O,O,O,O,O,O,O,O,X,X,X,X,X,X,X] rfl rfl (zo HT_.out (by kernel_rfl)) (fun _ _ _ h => h) (Or.inr ⟨by rfl, rfl⟩) ?_ ?_
    rotate_left
    ·simp only [Act.put, Ze, Zf, Zg, zl, zm]
     rfl
    refine zq (i := 18) (N := some 23) (v := undef) (a' := ?_) #[O,O,O,O,O,O,O,O,O,O,O,O,O,O,O,O,O,O,O,X,X,X,X,X,X] rfl rfl (zo HT_.out (by kernel_rfl)) (fun _ _ _ h => h) (Or.inr ⟨by rfl, rfl⟩) ?_ ?_
    rotate_left
    ·simp only [Act.put, Ze, Zf, Zg, zl, zm]
     rfl
    refine zq (i := 19) (N := some 24) (v := undef) (a' := ?_) #[O,O,O,O,O,O,O,O,O,O,O,O,O,O,O,O,O,O,O,O,X,X,X,X,X] rfl rfl (zo HT_.out (by kernel_rfl)) (fun _ _ _ h => h) (Or.inr ⟨by rfl, rfl⟩) ?_ ?_
    rotate_left
    ·simp only [Act.put, Ze, Zf, Zg, zl, zm]
     rfl
    refine zq (i := 20) (N := some 25) (v := undef) (a' := ?_) #[O,O,O,O,O,O,O,O,O,O,O,O,O,O,O,O,O,O,O,O,O,X,X,X,X] rfl rfl (zo HT_.out (by kernel_rfl)) (fun _ _ _ h => h) (Or.inr ⟨by rfl, rfl⟩) ?_ ?_
    rotate_left
    ·simp only [Act.put, Ze, Zf, Zg, zl, zm]
     rfl
    refine zq (i := 21) (N := some 26) (v := undef) (a' := ?_) #[O,O,O,O,O,O,O,O,O,O,O,O,O,O,O,O,O,O,O,O,O,O,X,X,X] rfl rfl (zo HT_.out (by kernel_rfl)) (fun _ _ _ h => h) (Or.inr ⟨by rfl, rfl⟩) ?_ ?_
    rotate_left
    ·simp only [Act.put, Ze, Zf, Zg, zl, zm]
     rfl
    refine zq (i := 22) (N := some 27) (v := undef) (a' := ?_) #[O,O,O,O,O,O,O,O,O,O,O,O,O,O,O,O,O,O,O,O,O,O,O,X,X] rfl rfl (zo HT_.out (by kernel_rfl)) (fun _ _ _ h => h) (Or.inr ⟨by rfl, rfl⟩) ?_ ?_
    rotate_left
    ·simp only [Act.put, Ze, Zf, Zg, zl, zm]
     rfl
    refine zq (i := 23) (N := some 28) (v := ?_) (a' := ?_) #[O,O,O,O,O,O,O,O,O,O,O,O,O,O,O,O,O,O,O,O,O,O,O,O,X] rfl rfl (zo HT_.out (by kernel_rfl)) (fun _ _ _ h => h) (Or.inl ⟨by rfl, ?_⟩) ?_ ?_
    rotate_left
    ·intro w'
     go_simp
     with_reducible rfl
    rotate_left
    ·simp only [Act.put, Ze, Zf, Zg, zl, zm]
     rfl
    refine zq (i := 24) (N := some 4) (v := ?_) (a' := ?_) #[O,O,O,O,O,O,O,O,O,O,O,O,O,O,O,O,O,O,O,O,O,O,O,O,O] rfl rfl (zo HT_.out (by kernel_rfl)) (fun _ _ _ h => h) (Or.inl ⟨by rfl, ?_⟩) ?_ ?_
    rotate_left
    ·intro w'
     go_simp
     with_reducible rfl
    rotate_left
    ·simp only [Act.put, Ze, Zf, Zg, zl, zm]
     rfl
    refine yZ (yE HT_.out (by kernel_rfl)) ?_
    try go_wp2
    go_ret
    exact ⟨by first | rfl | (simp [zu, zv] <;> rfl) | (simp [*, zu, zv] <;> rfl), by repeat (first | (with_reducible first | exact HB.out | apply zf | apply zd | apply ze | refine zg ?_ GE750.out | refine zg ?_ GE751.out) | exact HB.out)⟩
  ·rw [if_neg c7] at H
   have c7b0 : (t753 == t754) = false := by simpa using c7
   (try (have c7b1 : decide (t753 = t754) = false := by simpa using c7))
   (try (have c7b2 : (t753 == t754) = false := by simpa using c7))
   (try (have c7b3 : ¬ (t753 = t754) := by simpa using c7))
   clear c7
   obtain rfl := Option.some.inj H
   go_enter Tryz.func5, Tryz.ntmps5
   try go_wp2_with (first | ((with_reducible refine zB (N := 2) rfl ?_); refine zA ?hg (N := 2) ?hd (cs := #[.int .i64 a0_0, .int .i64 a0_1, .int .i64 a0_2, .int .i64 a0_3, .int .i64 a0_4, .slice A0_5 l0_5.length c0_5, .slice A0_6 l0_6.length c0_6, .slice A0_7 l0_7.length c0_7, .slice A0_8 l0_8.length c0_8, .slice A0_9 l0_9.length c0_9]) (t := 28) ?hr ?_; (case hd => rfl); (case hg => rfl); (case hr => first | (go_simp; done) | (go_simp; rfl)); intro gb750 hg w28 hbox hb; have n0_ := zc.mk (zs (by repeat (first | (with_reducible first | exact HB.out | apply zf | apply zd | apply ze) | exact HB.out)) hb); have n1_ := zc.mk (hbox); have n2_ := zc.mk ((by rw [hg]; exact (zr (by repeat (first | (with_reducible first | exact HB.out | apply zf | apply zd | apply ze) | exact HB.out))) : w.heap.size ≤ gb750)); have n3_ := zc.mk ((by rw [hg]; exact (zr (by repeat (first | (with_reducible first | exact HB.out | apply zf | apply zd | apply ze) | exact HB.out))) : w.heap.size ≤ gb750)); clear HB; have HB := n0_; have BK750 := n1_; have GW750 := n2_; have GE750 := n3_; clear n0_ n1_ n2_ n3_; clear hb hbox hg) | ((with_reducible refine zB (N := 3) rfl ?_); refine zA ?hg (N := 3) ?hd (cs := #[.int .i64 a1_0, .int .i64 a1_1, .int .i64 a1_2, .int .i64 a1_3, .int .i64 a1_4, .slice A1_5 l1_5.length c1_5, .slice A1_6 l1_6.length c1_6, .slice A1_7 l1_7.length c1_7, .slice A1_8 l1_8.length c1_8, .slice A1_9 l1_9.length c1_9]) (t := 28) ?hr ?_; (case hd => rfl); (case hg => rfl); (case hr => first | (go_simp; done) | (go_simp; rfl)); intro gb751 hg w29 hbox hb; have n0_ := zc.mk (zx (g := gb750) (o := .cells #[.int .i64 a0_0, .int .i64 a0_1, .int .i64 a0_2, .int .i64 a0_3, .int .i64 a0_4, .slice A0_5 l0_5.length c0_5, .slice A0_6 l0_6.length c0_6, .slice A0_7 l0_7.length c0_7, .slice A0_8 l0_8.length c0_8, .slice A0_9 l0_9.length c0_9] 28 (0, 0)) (by (with_reducible repeat (first | refine zh ?_ _ | refine zj ?_ | refine zi ?_ _)); exact BK750.out) hb); have n1_ := zc.mk (zs (by repeat (first | (with_reducible first | exact HB.out | apply zf | apply zd | apply ze | refine zg ?_ GE750.out) | exact HB.out)) hb); have n2_ := zc.mk (hbox); have n3_ := zc.mk ((by rw [hg]; exact (zr (by repeat (first | (with_reducible first | exact HB.out | apply zf | apply zd | apply ze | refine zg ?_ GE750.out) | exact HB.out))) : w.heap.size ≤ gb751)); have n4_ := zc.mk ((by rw [hg]; exact (zr (by repeat (first | (with_reducible first | exact HB.out | apply zf | apply zd | apply ze | refine zg ?_ GE750.out) | exact HB.out))) : w.heap.size ≤ gb751)); have n5_ := zc.mk ((by rw [hg]; exact Nat.ne_of_lt (zN (g := gb750) (o := .cells #[.int .i64 a0_0, .int .i64 a0_1, .int .i64 a0_2, .int .i64 a0_3, .int .i64 a0_4, .slice A0_5 l0_5.length c0_5, .slice A0_6 l0_6.length c0_6, .slice A0_7 l0_7.length c0_7, .slice A0_8 l0_8.length c0_8, .slice A0_9 l0_9.length c0_9] 28 (0, 0)) (by (with_reducible repeat (first | refine zh ?_ _ | refine zj ?_ | refine zi ?_ _)); exact BK750.out)) : gb750 ≠ gb751)); have n6_ := zc.mk ((by rw [hg]; exact Nat.ne_of_gt (zN (g := gb750) (o := .cells #[.int .i64 a0_0, .int .i64 a0_1, .int .i64 a0_2, .int .i64 a0_3, .int .i64 a0_4, .slice A0_5 l0_5.length c0_5, .slice A0_6 l0_6.length c0_6, .slice A0_7 l0_7.length c0_7, .slice A0_8 l0_8.length c0_8, .slice A0_9 l0_9.length c0_9] 28 (0, 0)) (by (with_reducible repeat (first | refine zh ?_ _ | refine zj ?_ | refine zi ?_ _)); exact BK750.out)) : gb751 ≠ gb750)); clear BK750; clear HB; have BK750 := n0_; have HB := n1_; have BK751 := n2_; have GW751 := n3_; have GE751 := n4_; have NB750_751 := n5_; have NB751_750 := n6_; clear n0_ n1_ n2_ n3_ n4_ n5_ n6_; clear hb hbox hg))
   have n0_ := zc.mk (zj BK750.out)
   have n1_ := zc.mk (zj BK751.out)
   have n2_ := zc.mk (ze HB.out)
   clear BK750
   clear BK751
   clear HB
   have BK750 := n0_
   have BK751 := n1_
   have HB := n2_
   clear n0_ n1_ n2_
   refine yK (n := 25) (S := fun w' => w'.cell? ⟨gb750, 0, none⟩ = some (.int .i64 a0_0) ∧ w'.cell? ⟨gb750, 1, none⟩ = some (.int .i64 a0_1) ∧ w'.cell? ⟨gb750, 2, none⟩ = some (.int .i64 a0_2) ∧ w'.cell? ⟨gb750, 3, none⟩ = some (.int .i64 a0_3) ∧ w'.cell? ⟨gb750, 4, none⟩ = some (.int .i64 a0_4) ∧ w'.cell? ⟨gb750, 5, none⟩ = some (.slice A0_5 l0_5.length c0_5) ∧ w'.cell? ⟨gb750, 6, none⟩ = some (.slice A0_6 l0_6.length c0_6) ∧ w'.cell? ⟨gb750, 7, none⟩ = some (.slice A0_7 l0_7.length c0_7) ∧ w'.cell? ⟨gb750, 8, none⟩ = some (.slice A0_8 l0_8.length c0_8) ∧ w'.cell? ⟨gb750, 9, none⟩ = some (.slice A0_9 l0_9.length c0_9) ∧ w'.cell? ⟨gb751, 0, none⟩ = some (.int .i64 a1_0) ∧ w'.cell? ⟨gb751, 1, none⟩ = some (.int .i64 a1_1) ∧ w'.cell? ⟨gb751, 2, none⟩ = some (.int .i64 a1_2) ∧ w'.cell? ⟨gb751, 3, none⟩ = some (.int .i64 a1_3) ∧ w'.cell? ⟨gb751, 4, none⟩ = some (.int .i64 a1_4) ∧ w'.cell? ⟨gb751, 5, none⟩ = some (.slice A1_5 l1_5.length c1_5) ∧ w'.cell? ⟨gb751, 6, none⟩ = some (.slice A1_6 l1_6.length c1_6) ∧ w'.cell? ⟨gb751, 7, none⟩ = some (.slice A1_7 l1_7.length c1_7) ∧ w'.cell? ⟨gb751, 8, none⟩ = some (.slice A1_8 l1_8.length c1_8) ∧ w'.cell? ⟨gb751, 9, none⟩ = some (.slice A1_9 l1_9.length c1_9)) (ds := []) #[X,X,X,X,X,X,X,X,X,X,X,X,X,X,X,X,X,X,X,X,X,X,X,X,X] (by kernel_rfl) rfl rfl ⟨(za BK750.out 0).trans rfl, (za BK750.out 1).trans rfl, (za BK750.out 2).trans rfl, (za BK750.out 3).trans rfl, (za BK750.out 4).trans rfl, (za BK750.out 5).trans rfl, (za BK750.out 6).trans rfl, (za BK750.out 7).trans rfl, (za BK750.out 8).trans rfl, (za BK750.out 9).trans rfl, (za BK751.out 0).trans rfl, (za BK751.out 1).trans rfl, (za BK751.out 2).trans rfl, (za BK751.out 3).trans rfl, (za BK751.out 4).trans rfl, (za BK751.out 5).trans rfl, (za BK751.out 6).trans rfl, (za BK751.out 7).trans rfl, (za BK751.out 8).trans rfl, (za BK751.out 9).trans rfl⟩ (fun hHeld => ?_); refine ym zU.tab1 zU.bits1 (fun HT_ HW_ => ?_)
   generalize w29.drew = w30 at BK750 BK751 HB hHeld ⊢
   refine yO (i := 0) (N := some 5) #[O,X,X,X,X,X,X,X,X,X,X,X,X,X,X,X,X,X,X,X,X,X,X,X,X] rfl rfl (yo HT_.out (by kernel_rfl)) (by decide) (fun K hK => ?_)
   refine yq Tryz.func9 (by kernel_rfl) rfl #[] (by rfl) rfl rfl (by (try simp only [Zh, List.map_cons, List.map_nil]); first | done | rfl | (simp only [List.length_drop, List.length_take]; rfl)) ?_
   with_reducible refine (yj.calls  true _ A3.out).mono ?_
   rintro e w31 ⟨rfl, hb⟩
   refine ⟨_, rfl, ?_⟩
   have n0_ := zc.mk (zx (g := gb750) (o := .cells #[.int .i64 a0_0, .int .i64 a0_1, .int .i64 a0_2, .int .i64 a0_3, .int .i64 a0_4, .slice A0_5 l0_5.length c0_5, .slice A0_6 l0_6.length c0_6, .slice A0_7 l0_7.length c0_7, .slice A0_8 l0_8.length c0_8, .slice A0_9 l0_9.length c0_9] 28 (0, 0)) (by (with_reducible repeat (first | refine zh ?_ _ | refine zj ?_ | refine zi ?_ _)); exact BK750.out) hb)
   have n1_ := zc.mk (zx (g := gb751) (o := .cells #[.int .i64 a1_0, .int .i64 a1_1, .int .i64 a1_2, .int .i64 a1_3, .int .i64 a1_4, .slice A1_5 l1_5.length c1_5, .slice A1_6 l1_6.length c1_6, .slice A1_7 l1_7.length c1_7, .slice A1_8 l1_8.length c1_8, .slice A1_9 l1_9.length c1_9] 28 (0, 0)) (by (with_reducible repeat (first | refine zh ?_ _ | refine zj ?_ | refine zi ?_ _)); exact BK751.out) hb)
   have n2_ := zc.mk (zs (by repeat (first | (with_reducible first | exact HB.out | apply zf | apply zd | apply ze | refine zg ?_ GE750.out | refine zg ?_ GE751.out) | exact HB.out)) hb)
   clear BK750
   clear BK751
   clear HB
   have BK750 := n0_
   have BK751 := n1_
   have HB := n2_
   clear n0_ n1_ n2_
   (try clear hb)
   (try clear hb2)
   (try clear hk)
   (try clear hi)
   refine hK.out _ _ ⟨(za BK750.out 0).trans rfl, (za BK750.out 1).trans rfl, (za BK750.out 2).trans rfl, (za BK750.out 3).trans rfl, (za BK750.out 4).trans rfl, (za BK750.out 5).trans rfl, (za BK750.out 6).trans rfl, (za BK750.out 7).trans rfl, (za BK750.out 8).trans rfl, (za BK750.out 9).trans rfl, (za BK751.out 0).trans rfl, (za BK751.out 1).trans rfl, (za BK751.out 2).trans rfl, (za BK751.out 3).trans rfl, (za BK751.out 4).trans rfl, (za BK751.out 5).trans rfl, (za BK751.out 6).trans rfl, (za BK751.out 7).trans rfl, (za BK751.out 8).trans rfl, (za BK751.out 9).trans rfl⟩ (fun hHeld => ?_)
   clear hK K
   refine yF (a' := ?_) ?_ ?_
   rotate_left
   ·show Act.put _ (some 5) _ = _
    simp only [Act.put, Ze, Zf, Zg, zl, zm]
    rfl
   refine zq (i := 1) (N := some 6) (v := ?_) (a' := ?_) #[O,O,X,X,X,X,X,X,X,X,X,X,X,X,X,X,X,X,X,X,X,X,X,X,X] rfl rfl (zo HT_.out (by kernel_rfl)) (fun _ _ _ h => h) (Or.inl ⟨by rfl, ?_⟩) ?_ ?_
   rotate_left
   ·intro w'
    go_simp
    with_reducible rfl
   rotate_left
   ·simp only [Act.put, Ze, Zf, Zg, zl, zm]
    rfl
   refine take_ (i := 2) (N := some 7) (v := ?_) (a' := ?_) #[O,O,O,X,X,X,X,X,X,X,X,X,X,X,X,X,X,X,X,X,X,X,X,X,X] rfl rfl (zQ HT_.out HW_.out (by kernel_rfl)) (fun _ _ _ h => h) (Or.inl ⟨by rfl, ?_⟩) hHeld ?_ ?_
   rotate_left
   ·rintro w' ⟨s0, s1, s2, s3, s4, s5, s6, s7, s8, s9, s10, s11, s12, s13, s14, s15, s16, s17, s18, s19⟩
    go_simp
    with_reducible rfl
   rotate_left
   ·simp only [Act.put, Ze, Zf, Zg, zl, zm]
    rfl
   refine take_ (i := 3) (N := some 8) (v := ?_) (a' := ?_) #[O,O,O,O,X,X,X,X,X,X,X,X,X,X,X,X,X,X,X,X,X,X,X,X,X] rfl rfl (zQ HT_.out HW_.out (by kernel_rfl)) (fun _ _ _ h => h) (Or.inl ⟨by rfl, ?_⟩) hHeld ?_ ?_
   rotate_left
   ·rintro w' ⟨s0, s1, s2, s3, s4, s5, s6, s7, s8, s9, s10, s11, s12, s13, s14, s15, s16, s17, s18, s19⟩
    go_simp
    with_reducible rfl
   rotate_left
   ·simp only [Act.put, Ze, Zf, Zg, zl, zm]
    rfl
   refine take_ (i := 5) (N := some 10) (v := ?_) (a' := ?_) #[O,O,O,O,X,O,X,X,X,X,X,X,X,X,X,X,X,X,X,X,X,X,X,X,X] rfl rfl (zQ HT_.out HW_.out (by kernel_rfl)) (fun _ _ _ h => h) (Or.inl ⟨by rfl, ?_⟩) hHeld ?_ ?_
   rotate_left
   ·rintro w' ⟨s0, s1, s2, s3, s4, s5, s6, s7, s8, s9, s10, s11, s12, s13, s14, s15, s16, s17, s18, s19⟩
    go_simp
    with_reducible rfl
   rotate_left
   ·simp only [Act.put, Ze, Zf, Zg, zl, zm]
    rfl
   refine take_ (i := 6) (N := some 11) (v := ?_) (a' := ?_) #[O,O,O,O,X,O,O,X,X,X,X,X,X,X,X,X,X,X,X,X,X,X,X,X,X] rfl rfl (zQ HT_.out HW_.out (by kernel_rfl)) (fun _ _ _ h => h) (Or.inl ⟨by rfl, ?_⟩) hHeld ?_ ?_
   rotate_left
   ·rintro w' ⟨s0, s1, s2, s3, s4, s5, s6, s7, s8, s9, s10, s11, s12, s13, s14, s15, s16, s17, s18, s19⟩
    go_simp
    with_reducible rfl
   rotate_left
   ·simp only [Act.put, Ze, Zf, Zg, zl, zm]
    rfl
   refine yO (i := 4) (N := some 9) #[O,O,O,O,O,O,O,X,X,X,X,X,X,X,X,X,X,X,X,X,X,X,X,X,X] rfl rfl (yo HT_.out (by kernel_rfl)) (by decide) (fun K hK => ?_)
   refine yq Tryz.func15 (by kernel_rfl) rfl #[.agg #[.int .i64 a0_0, .int .i64 a0_1, .int .i64 a0_2, .int .i64 a0_3, .int .i64 a0_4, .slice A0_5 l0_5.length c0_5, .slice A0_6 l0_6.length c0_6, .slice A0_7 l0_7.length c0_7, .slice A0_8 l0_8.length c0_8, .slice A0_9 l0_9.length c0_9], .agg #[.int .i64 a1_0, .int .i64 a1_1, .int .i64 a1_2, .int .i64 a1_3, .int .i64 a1_4, .slice A1_5 l1_5.length c1_5, .slice A1_6 l1_6.length c1_6, .slice A1_7 l1_7.length c1_7, .slice A1_8 l1_8.length c1_8, .slice A1_9 l1_9.length c1_9]] (by rfl) rfl rfl (by (try simp only [Zh, List.map_cons, List.map_nil]); first | done | rfl | (simp only [List.length_drop, List.length_take]; rfl)) ?_
   with_reducible refine (zH.calls k a0_0 a0_1 a0_2 a0_3 a0_4 _ _ l0_5 _ _ l0_6 _ _ l0_7 _ _ l0_8 _ _ l0_9 a1_0 a1_1 a1_2 a1_3 a1_4 _ _ l1_5 _ _ l1_6 _ _ l1_7 _ _ l1_8 _ _ l1_9 t753 _ ?side1 ?side2 ?side3 ?side4 ?side5 ?side6 ?side7 ?side8 ?side9 ?side10 ?side11 ?side12 ?side13 ?side14 ?side15 ?side16 ?side17 ?side18 ?side19 ?side20 A5.out).mono ?_
   (case side1 => repeat (first | exact (Kd.C_below HR0_5.out HB.out) | (with_reducible refine Kd.C_alloc ?_ _) | (with_reducible refine Kd.C_drewN ?_ _) | (with_reducible refine Kd.C_drew ?_)))
   (case side2 => exact HC0_5.out)
   (case side3 => repeat (first | exact (Kd.C_below HR0_6.out HB.out) | (with_reducible refine Kd.C_alloc ?_ _) | (with_reducible refine Kd.C_drewN ?_ _) | (with_reducible refine Kd.C_drew ?_)))
   (case side4 => exact HC0_6.out)
   (case side5 => repeat (first | exact (Kd.C_below HR0_7.out HB.out) | (with_reducible refine Kd.C_alloc ?_ _) | (with_reducible refine Kd.C_drewN ?_ _) | (with_reducible refine Kd.C_drew ?_)))
   (case side6 => exact HC0_7.out)
   (case side7 => repeat (first | exact (Kd.C_below HR0_8.out HB.out) | (with_reducible refine Kd.C_alloc ?_ _) | (with_reducible refine Kd.C_drewN ?_ _) | (with_reducible refine Kd.C_drew ?_)))
   (case side8 => exact HC0_8.out)
   (case side9 => repeat (first | exact (Kd.C_below HR0_9.out HB.out) | (with_reducible refine Kd.C_alloc ?_ _) | (with_reducible refine Kd.C_drewN ?_ _) | (with_reducible refine Kd.C_drew ?_)))
   (case side10 => exact HC0_9.out)
   (case side11 => repeat (first | exact (Kd.C_below HR1_5.out HB.out) | (with_reducible refine Kd.C_alloc ?_ _) | (with_reducible refine Kd.C_drewN ?_ _) | (with_reducible refine Kd.C_drew ?_)))
   (case side12 => exact HC1_5.out)
   (case side13 => repeat (first | exact (Kd.C_below HR1_6.out HB.out) | (with_reducible refine Kd.C_alloc ?_ _) | (with_reducible refine Kd.C_drewN ?_ _) | (with_reducible refine Kd.C_drew ?_)))
   (case side14 => exact HC1_6.out)
   (case side15 => repeat (first | exact (Kd.C_below HR1_7.out HB.out) | (with_reducible refine Kd.C_alloc ?_ _) | (with_reducible refine Kd.C_drewN ?_ _) | (with_reducible refine Kd.C_drew ?_)))
   (case side16 => exact HC1_7.out)
   (case side17 => repeat (first | exact (Kd.C_below HR1_8.out HB.out) | (with_reducible refine Kd.C_alloc ?_ _) | (with_reducible refine Kd.C_drewN ?_ _) | (with_reducible refine Kd.C_drew ?_)))
   (case side18 => exact HC1_8.out)
   (case side19 => repeat (first | exact (Kd.C_below HR1_9.out HB.out) | (with_reducible refine Kd.C_alloc ?_ _) | (with_reducible refine Kd.C_drewN ?_ _) | (with_reducible refine Kd.C_drew ?_)))
   (case side20 => exact HC1_9.out)
   rintro e w32 ⟨rfl, hb⟩
   refine ⟨_, rfl, ?_⟩
   have n0_ := zc.mk (zx (g := gb750) (o := .cells #[.int .i64 a0_0, .int .i64 a0_1, .int .i64 a0_2, .int .i64 a0_3, .int .i64 a0_4, .slice A0_5 l0_5.length c0_5, .slice A0_6 l0_6.length c0_6, .slice A0_7 l0_7.length c0_7, .slice A0_8 l0_8.length c0_8, .slice A0_9 l0_9.length c0_9] 28 (0, 0)) (by (with_reducible repeat (first | refine zh ?_ _ | refine zj ?_ | refine zi ?_ _)); exact BK750.out) hb)
   have n1_ := zc.mk (zx (g := gb751) (o := .cells #[.int .i64 a1_0, .int .i64 a1_1, .int .i64 a1_2, .int .i64 a1_3, .int .i64 a1_4, .slice A1_5 l1_5.length c1_5, .slice A1_6 l1_6.length c1_6, .slice A1_7 l1_7.length c1_7, .slice A1_8 l1_8.length c1_8, .slice A1_9 l1_9.length c1_9] 28 (0, 0)) (by (with_reducible repeat (first | refine zh ?_ _ | refine zj ?_ | refine zi ?_ _)); exact BK751.out) hb)
   have n2_ := zc.mk (zs (by repeat (first | (with_reducible first | exact HB.out | apply zf | apply zd | apply ze | refine zg ?_ GE750.out | refine zg ?_ GE751.out) | exact HB.out)) hb)
   clear BK750
   clear BK751
   clear HB
   have BK750 := n0_
   have BK751 := n1_
   have HB := n2_
   clear n0_ n1_ n2_
   (try clear hb)
   (try clear hb2)
   (try clear hk)
   (try clear hi)
   refine hK.out _ _ ⟨(za BK750.out 0).trans rfl, (za BK750.out 1).trans rfl, (za BK750.out 2).trans rfl, (za BK750.out 3).trans rfl, (za BK750.out 4).trans rfl, (za BK750.out 5).trans rfl, (za BK750.out 6).trans rfl, (za BK750.out 7).trans rfl, (za BK750.out 8).trans rfl, (za BK750.out 9).trans rfl, (za BK751.out 0).trans rfl, (za BK751.out 1).trans rfl, (za BK751.out 2).trans rfl, (za BK751.out 3).trans rfl, (za BK751.out 4).trans rfl, (za BK751.out 5).trans rfl, (za BK751.out 6).trans rfl, (za BK751.out 7).trans rfl, (za BK751.out 8).trans rfl, (za BK751.out 9).trans rfl⟩ (fun hHeld => ?_)
   clear hK K
   refine yF (a' := ?_) ?_ ?_
   rotate_left
   ·show Act.put _ (some 9) _ = _
    simp only [Act.put, Ze, Zf, Zg, zl, zm]
    rfl
   refine yO (i := 7) (N := some 12) #[O,O,O,O,O,O,O,O,X,X,X,X,X,X,X,X,X,X,X,X,X,X,X,X,X] rfl rfl (yo HT_.out (by kernel_rfl)) (by decide) (fun K hK => ?_)
   refine yq Tryz.func14 (by kernel_rfl) rfl #[.agg #[.int .i64 a0_0, .int .i64 a0_1, .int .i64 a0_2, .int .i64 a0_3, .int .i64 a0_4, .slice A0_5 l0_5.length c0_5, .slice A0_6 l0_6.length c0_6, .slice A0_7 l0_7.length c0_7, .slice A0_8 l0_8.length c0_8, .slice A0_9 l0_9.length c0_9], .agg #[.int .i64 a1_0, .int .i64 a1_1, .int .i64 a1_2, .int .i64 a1_3, .int .i64 a1_4, .slice A1_5 l1_5.length c1_5, .slice A1_6 l1_6.length c1_6, .slice A1_7 l1_7.length c1_7, .slice A1_8 l1_8.length c1_8, .slice A1_9 l1_9.length c1_9]] (by rfl) rfl rfl (by (try simp only [Zh, List.map_cons, List.map_nil]); first | done | rfl | (simp only [List.length_drop, List.length_take]; rfl)) ?_
   with_reducible refine (yi.calls k a0_0 a0_1 a0_2 a0_3 a0_4 _ _ l0_5 _ _ l0_6 _ _ l0_7 _ _ l0_8 _ _ l0_9 a1_0 a1_1 a1_2 a1_3 a1_4 _ _ l1_5 _ _ l1_6 _ _ l1_7 _ _ l1_8 _ _ l1_9 t754 _ ?side1 ?side2 ?side3 ?side4 ?side5 ?side6 ?side7 ?side8 ?side9 ?side10 ?side11 ?side12 ?side13 ?side14 ?side15 ?side16 ?side17 ?side18 ?side19 ?side20 A6.out).mono ?_
   (case side1 => repeat (first | exact (Kd.C_below HR0_5.out HB.out) | (with_reducible refine Kd.C_alloc ?_ _) | (with_reducible refine Kd.C_drewN ?_ _) | (with_reducible refine Kd.C_drew ?_)))
   (case side2 => exact HC0_5.out)
   (case side3 => repeat (first | exact (Kd.C_below HR0_6.out HB.out) | (with_reducible refine Kd.C_alloc ?_ _) | (with_reducible refine Kd.C_drewN ?_ _) | (with_reducible refine Kd.C_drew ?_)))
   (case side4 => exact HC0_6.out)
   (case side5 => repeat (first | exact (Kd.C_below HR0_7.out HB.out) | (with_reducible refine Kd.C_alloc ?_ _) | (with_reducible refine Kd.C_drewN ?_ _) | (with_reducible refine Kd.C_drew ?_)))
   (case side6 => exact HC0_7.out)
   (case side7 => repeat (first | exact (Kd.C_below HR0_8.out HB.out) | (with_reducible refine Kd.C_alloc ?_ _) | (with_reducible refine Kd.C_drewN ?_ _) | (with_reducible refine Kd.C_drew ?_)))
   (case side8 => exact HC0_8.out)
   (case side9 => repeat (first | exact (Kd.C_below HR0_9.out HB.out) | (with_reducible refine Kd.C_alloc ?_ _) | (with_reducible refine Kd.C_drewN ?_ _) | (with_reducible refine Kd.C_drew ?_)))
   (case side10 => exact HC0_9.out)
   (case side11 => repeat (first | exact (Kd.C_below HR1_5.out HB.out) | (with_reducible refine Kd.C_alloc ?_ _) | (with_reducible refine Kd.C_drewN ?_ _) | (with_reducible refine Kd.C_drew ?_)))
   (case side12 => exact HC1_5.out)
   (case side13 => repeat (first | exact (Kd.C_below HR1_6.out HB.out) | (with_reducible refine Kd.C_alloc ?_ _) | (with_reducible refine Kd.C_drewN ?_ _) | (with_reducible refine Kd.C_drew ?_)))
   (case side14 => exact HC1_6.out)
   (case side15 => repeat (first | exact (Kd.C_below HR1_7.out HB.out) | (with_reducible refine Kd.C_alloc ?_ _) | (with_reducible refine Kd.C_drewN ?_ _) | (with_reducible refine Kd.C_drew ?_)))
   (case side16 => exact HC1_7.out)
   (case side17 => repeat (first | exact (Kd.C_below HR1_8.out HB.out) | (with_reducible refine Kd.C_alloc ?_ _) | (with_reducible refine Kd.C_drewN ?_ _) | (with_reducible refine Kd.C_drew ?_)))
   (case side18 => exact HC1_8.out)
   (case side19 => repeat (first | exact (Kd.C_below HR1_9.out HB.out) | (with_reducible refine Kd.C_alloc ?_ _) | (with_reducible refine Kd.C_drewN ?_ _) | (with_reducible refine Kd.C_drew ?_)))
   (case side20 => exact HC1_9.out)
   rintro e w33 ⟨rfl, hb⟩
   refine ⟨_, rfl, ?_⟩
   have n0_ := zc.mk (zx (g := gb750) (o := .cells #[.int .i64 a0_0, .int .i64 a0_1, .int .i64 a0_2, .int .i64 a0_3, .int .i64 a0_4, .slice A0_5 l0_5.length c0_5, .slice A0_6 l0_6.length c0_6, .slice A0_7 l0_7.length c0_7, .slice A0_8 l0_8.length c0_8, .slice A0_9 l0_9.length c0_9] 28 (0, 0)) (by (with_reducible repeat (first | refine zh ?_ _ | refine zj ?_ | refine zi ?_ _)); exact BK750.out) hb)
   have n1_ := zc.mk (zx (g := gb751) (o := .cells #[.int .i64 a1_0, .int .i64 a1_1, .int .i64 a1_2, .int .i64 a1_3, .int .i64 a1_4, .slice A1_5 l1_5.length c1_5, .slice A1_6 l1_6.length c1_6, .slice A1_7 l1_7.length c1_7, .slice A1_8 l1_8.length c1_8, .slice A1_9 l1_9.length c1_9] 28 (0, 0)) (by (with_reducible repeat (first | refine zh ?_ _ | refine zj ?_ | refine zi ?_ _)); exact BK751.out) hb)
   have n2_ := zc.mk (zs (by repeat (first | (with_reducible first | exact HB.out | apply zf | apply zd | apply ze | refine zg ?_ GE750.out | refine zg ?_ GE751.out) | exact HB.out)) hb)
   clear BK750
   clear BK751
   clear HB
   have BK750 := n0_
   have BK751 := n1_
   have HB := n2_
   clear n0_ n1_ n2_
   (try clear hb)
   (try clear hb2)
   (try clear hk)
   (try clear hi)
   refine hK.out _ _ ⟨(za BK750.out 0).trans rfl, (za BK750.out 1).trans rfl, (za BK750.out 2).trans rfl, (za BK750.out 3).trans rfl, (za BK750.out 4).trans rfl, (za BK750.out 5).trans rfl, (za BK750.out 6).trans rfl, (za BK750.out 7).trans rfl, (za BK750.out 8).trans rfl, (za BK750.out 9).trans rfl, (za BK751.out 0).trans rfl, (za BK751.out 1).trans rfl, (za BK751.out 2).trans rfl, (za BK751.out 3).trans rfl, (za BK751.out 4).trans rfl, (za BK751.out 5).trans rfl, (za BK751.out 6).trans rfl, (za BK751.out 7).trans rfl, (za BK751.out 8).trans rfl, (za BK751.out 9).trans rfl⟩ (fun hHeld => ?_)
   clear hK K
   refine yF (a' := ?_) ?_ ?_
   rotate_left
   ·show Act.put _ (some 12) _ = _
    simp only [Act.put, Ze, Zf, Zg, zl, zm]
    rfl
   refine zq (i := 8) (N := some 13) (v := ?_) (a' := ?_) #[O,O,O,O,O,O,O,O,O,X,X,X,X,X,X,X,X,X,X,X,X,X,X,X,X] rfl rfl (zo HT_.out (by kernel_rfl)) (fun _ _ _ h => h) (Or.inl ⟨by rfl, ?_⟩) ?_ ?_
   rotate_left
   ·intro w'
    go_simp
    with_reducible rfl
   rotate_left
   ·simp only [Act.put, Ze, Zf, Zg, zl, zm]
    rfl
   refine zq (i := 9) (N := some 14) (v := ?_) (a' := ?_) #[O,O,O,O,O,O,O,O,O,O,X,X,X,X,X,X,X,X,X,X,X,X,X,X,X] rfl rfl (zo HT_.out (by kernel_rfl)) (fun _ _ _ h => h) (Or.inl ⟨by rfl, ?_⟩) ?_ ?_
   rotate_left
   ·intro w'
    go_simp
    with_reducible rfl
   rotate_left
   ·simp only [Act.put, Ze, Zf, Zg, zl, zm]
    rfl
   refine zq (i := 10) (N := some 15) (v := ?_) (a' := ?_) #[O,O,O,O,O,O,O,O,O,O,O,X,X,X,X,X,X,X,X,X,X,X,X,X,X] rfl rfl (zo HT_.out (by kernel_rfl)) (fun _ _ _ h => h) (Or.inl ⟨by rfl, ?_⟩) ?_ ?_
   rotate_left
   ·intro w'
    go_simp
    with_reducible rfl
   rotate_left
   ·simp only [Act.put, Ze, Zf, Zg, zl, zm]
    rfl
   refine zq (i := 11) (N := some 16) (v := undef) (a' := ?_) #[O,O,O,O,O,O,O,O,O,O,O,O,X,X,X,X,X,X,X,X,X,X,X,X,X] rfl rfl (zo HT_.out (by kernel_rfl)) (fun _ _ _ h => h) (Or.inr ⟨by rfl, rfl⟩) ?_ ?_
   rotate_left
   ·simp only [Act.put, Ze, Zf, Zg, zl, zm]
    rfl
   refine zq (i := 12) (N := some 17) (v := undef) (a' := ?_) #[O,O,O,O,O,O,O,O,O,O,O,O,O,X,X,X,X,X,X,X,X,X,X,X,X] rfl rfl (zo HT_.out (by kernel_rfl)) (fun _ _ _ h => h) (Or.inr ⟨by rfl, rfl⟩) ?_ ?_
   rotate_left
   ·simp only [Act.put, Ze, Zf, Zg, zl, zm]
    rfl
   refine zq (i := 13) (N := some 18) (v := undef) (a' := ?_) #[O,O,O,O,O,O,O,O,O,O,O,O,O,O,X,X,X,X,X,X,X,X,X,X,X] rfl rfl (zo HT_.out (by kernel_rfl)) (fun _ _ _ h => h) (Or.inr ⟨by rfl, rfl⟩) ?_ ?_
   rotate_left
   ·simp only [Act.put, Ze, Zf, Zg, zl, zm]
    rfl
   refine zq (i := 14) (N := some 19) (v := ?_) (a' := ?_) #[O,O,O,O,O,O,O,O,O,O,O,O,O,O,O,X,X,X,X,X,X,X,X,X,X] rfl rfl (zo HT_.out (by kernel_rfl)) (fun _ _ _ h => h) (Or.inl ⟨by rfl, ?_⟩) ?_ ?_
   rotate_left
   ·intro w'
    go_simp
    with_reducible rfl
   rotate_left
   ·simp only [Act.put, Ze, Zf, Zg, zl, zm]
    rfl
   refine zq (i := 15) (N := some 20) (v := ?_) (a' := ?_) #[O,O,O,O,O,O,O,O,O,O,O,O,O,O,O,O,X,X,X,X,X,X,X,X,X] rfl rfl (zo HT_.out (by kernel_rfl)) (fun _ _ _ h => h) (Or.inl ⟨by rfl, ?_⟩) ?_ ?_
   rotate_left
   ·intro w'
    go_simp
    with_reducible rfl
   rotate_left
   ·simp only [Act.put, Ze, Zf, Zg, zl, zm]
    rfl
   refine zq (i := 16) (N := some 21) (v := undef) (a' := ?_) #[O,O,O,O,O,O,O,O,O,O,O,O,O,O,O,O,O,X,X,X,X,X,X,X,X] rfl rfl (zo HT_.out (by kernel_rfl)) (fun _ _ _ h => h) (Or.inr ⟨by rfl, rfl⟩) ?_ ?_
   rotate_left
   ·simp only [Act.put, Ze, Zf, Zg, zl, zm]
    rfl
   refine zq (i := 17) (N := some 22) (v := undef) (a' := ?_) #[O,O,O,O,O,O,O,O,O,O,O,O,O,O,O,O,O,O,X,X,X,X,X,X,X] rfl rfl (zo HT_.out (by kernel_rfl)) (fun _ _ _ h => h) (Or.inr ⟨by rfl, rfl⟩) ?_ ?_
   rotate_left
   ·simp only [Act.put, Ze, Zf, Zg, zl, zm]
    rfl
   refine zq (i := 18) (N := some 23) (v := undef) (a' := ?_) #[O,O,O,O,O,O,O,O,O,O,O,O,O,O,O,O,O,O,O,X,X,X,X,X,X] rfl rfl (zo HT_.out (by kernel_rfl)) (fun _ _ _ h => h) (Or.inr ⟨by rfl, rfl⟩) ?_ ?_
   rotate_left
   ·simp only [Act.put, Ze, Zf, Zg, zl, zm]
    rfl
   refine zq (i := 19) (N := some 24) (v := undef) (a' := ?_) #[O,O,O,O,O,O,O,O,O,O,O,O,O,O,O,O,O,O,O,O,X,X,X,X,X] rfl rfl (zo HT_.out (by kernel_rfl)) (fun _ _ _ h => h) (Or.inr ⟨by rfl, rfl⟩) ?_ ?_
   rotate_left
   ·simp only [Act.put, Ze, Zf, Zg, zl, zm]
    rfl
   refine zq (i := 20) (N := some 25) (v := undef) (a' := ?_) #[O,O,O,O,O,O,O,O,O,O,O,O,O,O,O,O,O,O,O,O,O,X,X,X,X] rfl rfl (zo HT_.out (by kernel_rfl)) (fun _ _ _ h => h) (Or.inr ⟨by rfl, rfl⟩) ?_ ?_
   rotate_left
   ·simp only [Act.put, Ze, Zf, Zg, zl, zm]
    rfl
   refine zq (i := 21) (N := some 26) (v := undef) (a' := ?_) #[O,O,O,O,O,O,O,O,O,O,O,O,O,O,O,O,O,O,O,O,O,O,X,X,X] rfl rfl (zo HT_.out (by kernel_rfl)) (fun _ _ _ h => h) (Or.inr ⟨by rfl, rfl⟩) ?_ ?_
   rotate_left
   ·simp only [Act.put, Ze, Zf, Zg, zl, zm]
    rfl
   refine zq (i := 22) (N := some 27) (v := undef) (a' := ?_) #[O,O,O,O,O,O,O,O,O,O,O,O,O,O,O,O,O,O,O,O,O,O,O,X,X] rfl rfl (zo HT_.out (by kernel_rfl)) (fun _ _ _ h => h) (Or.inr ⟨by rfl, rfl⟩) ?_ ?_
   rotate_left
   ·simp only [Act.put, Ze, Zf, Zg, zl, zm]
    rfl
   refine zq (i := 23) (N := some 28) (v := ?_) (a' := ?_) #[O,O,O,O,O,O,O,O,O,O,O,O,O,O,O,O,O,O,O,O,O,O,O,O,X] rfl rfl (zo HT_.out (by kernel_rfl)) (fun _ _ _ h => h) (Or.inl ⟨by rfl, ?_⟩) ?_ ?_
   rotate_left
   ·intro w'
    go_simp
    with_reducible rfl
   rotate_left
   ·simp only [Act.put, Ze, Zf, Zg, zl, zm]
    rfl
   refine zq (i := 24) (N := some 4) (v := ?_) (a' := ?_) #[O,O,O,O,O,O,O,O,O,O,O,O,O,O,O,O,O,O,O,O,O,O,O,O,O] rfl rfl (zo HT_.out (by kernel_rfl)) (fun _ _ _ h => h) (Or.inl ⟨by rfl, ?_⟩) ?_ ?_
   rotate_left
   ·intro w'
    go_simp
    with_reducible rfl
   rotate_left
   ·simp only [Act.put, Ze, Zf, Zg, zl, zm]
    rfl
   refine yZ (yE HT_.out (by kernel_rfl)) ?_
   try go_wp2
   go_ret
   exact ⟨by first | rfl | (simp [zu, zv] <;> rfl) | (simp [*, zu, zv] <;> rfl), by repeat (first | (with_reducible first | exact HB.out | apply zf | apply zd | apply ze | refine zg ?_ GE750.out | refine zg ?_ GE751.out) | exact HB.out)⟩
 ·replace c4 := Zk.mpr c4
  subst c4
  have H1 : (some false) = some r := by rw [if_neg (show ¬ (false = true) by decide)] at H; exact H
  clear H
  have H := H1
  clear H1
  obtain rfl := Option.some.inj H
  go_enter Tryz.func5, Tryz.ntmps5
  try go_wp2_with (first | ((with_reducible refine zB (N := 2) rfl ?_); refine zA ?hg (N := 2) ?hd (cs := #[.int .i64 a0_0, .int .i64 a0_1, .int .i64 a0_2, .int .i64 a0_3, .int .i64 a0_4, .slice A0_5 l0_5.length c0_5, .slice A0_6 l0_6.length c0_6, .slice A0_7 l0_7.length c0_7, .slice A0_8 l0_8.length c0_8, .slice A0_9 l0_9.length c0_9]) (t := 28) ?hr ?_; (case hd => rfl); (case hg => rfl); (case hr => first | (go_simp; done) | (go_simp; rfl)); intro gb750 hg w34 hbox hb; have n0_ := zc.mk (zs (by repeat (first | (with_reducible first | exact HB.out | apply zf | apply zd | apply ze) | exact HB.out)) hb); have n1_ := zc.mk (hbox); have n2_ := zc.mk ((by rw [hg]; exact (zr (by repeat (first | (with_reducible first | exact HB.out | apply zf | apply zd | apply ze) | exact HB.out))) : w.heap.size ≤ gb750)); have n3_ := zc.mk ((by rw [hg]; exact (zr (by repeat (first | (with_reducible first | exact HB.out | apply zf | apply zd | apply ze) | exact HB.out))) : w.heap.size ≤ gb750)); clear HB; have HB := n0_; have BK750 := n1_; have GW750 := n2_; have GE750 := n3_; clear n0_ n1_ n2_ n3_; clear hb hbox hg) | ((with_reducible refine zB (N := 3) rfl ?_); refine zA ?hg (N := 3) ?hd (cs := #[.int .i64 a1_0, .int .i64 a1_1, .int .i64 a1_2, .int .i64 a1_3, .int .i64 a1_4, .slice A1_5 l1_5.length c1_5, .slice A1_6 l1_6.length c1_6, .slice A1_7 l1_7.length c1_7, .slice A1_8 l1_8.length c1_8, .slice A1_9 l1_9.length c1_9]) (t := 28) ?hr ?_; (case hd => rfl); (case hg => rfl); (case hr => first | (go_simp; done) | (go_simp; rfl)); intro gb751 hg w35 hbox hb; have n0_ := zc.mk (zx (g := gb750) (o := .cells #[.int .i64 a0_0, .int .i64 a0_1, .int .i64 a0_2, .int .i64 a0_3, .int .i64 a0_4, .slice A0_5 l0_5.length c0_5, .slice A0_6 l0_6.length c0_6, .slice A0_7 l0_7.length c0_7, .slice A0_8 l0_8.length c0_8, .slice A0_9 l0_9.length c0_9] 28 (0, 0)) (by (with_reducible repeat (first | refine zh ?_ _ | refine zj ?_ | refine zi ?_ _)); exact BK750.out) hb); have n1_ := zc.mk (zs (by repeat (first | (with_reducible first | exact HB.out | apply zf | apply zd | apply ze | refine zg ?_ GE750.out) | exact HB.out)) hb); have n2_ := zc.mk (hbox); have n3_ := zc.mk ((by rw [hg]; exact (zr (by repeat (first | (with_reducible first | exact HB.out | apply zf | apply zd | apply ze | refine zg ?_ GE750.out) | exact HB.out))) : w.heap.size ≤ gb751)); have n4_ := zc.mk ((by rw [hg]; exact (zr (by repeat (first | (with_reducible first | exact HB.out | apply zf | apply zd | apply ze | refine zg ?_ GE750.out) | exact HB.out))) : w.heap.size ≤ gb751)); have n5_ := zc.mk ((by rw [hg]; exact Nat.ne_of_lt (zN (g := gb750) (o := .cells #[.int .i64 a0_0, .int .i64 a0_1, .int .i64 a0_2, .int .i64 a0_3, .int .i64 a0_4, .slice A0_5 l0_5.length c0_5, .slice A0_6 l0_6.length c0_6, .slice A0_7 l0_7.length c0_7, .slice A0_8 l0_8.length c0_8, .slice A0_9 l0_9.length c0_9] 28 (0, 0)) (by (with_reducible repeat (first | refine zh ?_ _ | refine zj ?_ | refine zi ?_ _)); exact BK750.out)) : gb750 ≠ gb751)); have n6_ := zc.mk ((by rw [hg]; exact Nat.ne_of_gt (zN (g := gb750) (o := .cells #[.int .i64 a0_0, .int .i64 a0_1, .int .i64 a0_2, .int .i64 a0_3, .int .i64 a0_4, .slice A0_5 l0_5.length c0_5, .slice A0_6 l0_6.length c0_6, .slice A0_7 l0_7.length c0_7, .slice A0_8 l0_8.length c0_8, .slice A0_9 l0_9.length c0_9] 28 (0, 0)) (by (with_reducible repeat (first | refine zh ?_ _ | refine zj ?_ | refine zi ?_ _)); exact BK750.out)) : gb751 ≠ gb750)); clear BK750; clear HB; have BK750 := n0_; have HB := n1_; have BK751 := n2_; have GW751 := n3_; have GE751 := n4_; have NB750_751 := n5_; have NB751_750 := n6_; clear n0_ n1_ n2_ n3_ n4_ n5_ n6_; clear hb hbox hg))
  have n0_ := zc.mk (zj BK750.out)
  have n1_ := zc.mk (zj BK751.out)
  have n2_ := zc.mk (ze HB.out)
  clear BK750
  clear BK751
  clear HB
  have BK750 := n0_
  have BK751 := n1_
  have HB := n2_
  clear n0_ n1_ n2_
  refine yK (n := 25) (S := fun w' => True) (ds := []) #[X,X,X,X,X,X,X,X,X,X,X,X,X,X,X,X,X,X,X,X,X,X,X,X,X] (by kernel_rfl) rfl rfl trivial (fun hHeld => ?_); refine ym zU.tab1 zU.bits1 (fun HT_ HW_ => ?_)
  generalize w35.drew = w36 at BK750 BK751 HB hHeld ⊢
  refine yO (i := 0) (N := some 5) #[O,X,X,X,X,X,X,X,X,X,X,X,X,X,X,X,X,X,X,X,X,X,X,X,X] rfl rfl (yo HT_.out (by kernel_rfl)) (by decide) (fun K hK => ?_)
  refine yq Tryz.func9 (by kernel_rfl) rfl #[] (by rfl) rfl rfl (by (try simp only [Zh, List.map_cons, List.map_nil]); first | done | rfl | (simp only [List.length_drop, List.length_take]; rfl)) ?_
  with_reducible refine (yj.calls  false _ A3.out).mono ?_
  rintro e w37 ⟨rfl, hb⟩
  refine ⟨_, rfl, ?_⟩
  have n0_ := zc.mk (zx (g := gb750) (o := .cells #[.int .i64 a0_0, .int .i64 a0_1, .int .i64 a0_2, .int .i64 a0_3, .int .i64 a0_4, .slice A0_5 l0_5.length c0_5, .slice A0_6 l0_6.length c0_6, .slice A0_7 l0_7.length c0_7, .slice A0_8 l0_8.length c0_8, .slice A0_9 l0_9.length c0_9] 28 (0, 0)) (by (with_reducible repeat (first | refine zh ?_ _ | refine zj ?_ | refine zi ?_ _)); exact BK750.out) hb)
  have n1_ := zc.mk (zx (g := gb751) (o := .cells #[.int .i64 a1_0, .int .i64 a1_1, .int .i64 a1_2, .int .i64 a1_3, .int .i64 a1_4, .slice A1_5 l1_5.length c1_5, .slice A1_6 l1_6.length c1_6, .slice A1_7 l1_7.length c1_7, .slice A1_8 l1_8.length c1_8, .slice A1_9 l1_9.length c1_9] 28 (0, 0)) (by (with_reducible repeat (first | refine zh ?_ _ | refine zj ?_ | refine zi ?_ _)); exact BK751.out) hb)
  have n2_ := zc.mk (zs (by repeat (first | (with_reducible first | exact HB.out | apply zf | apply zd | apply ze | refine zg ?_ GE750.out | refine zg ?_ GE751.out) | exact HB.out)) hb)
  clear BK750
  clear BK751
  clear HB
  have BK750 := n0_
  have BK751 := n1_
  have HB := n2_
  clear n0_ n1_ n2_
  (try clear hb)
  (try clear hb2)
  (try clear hk)
  (try clear hi)
  refine hK.out _ _ trivial (fun hHeld => ?_)
  clear hK K
  refine yF (a' := ?_) ?_ ?_
  rotate_left
  ·show Act.put _ (some 5) _ = _
   simp only [Act.put, Ze, Zf, Zg, zl, zm]
   rfl
  refine zq (i := 1) (N := some 6) (v := ?_) (a' := ?_) #[O,O,X,X,X,X,X,X,X,X,X,X,X,X,X,X,X,X,X,X,X,X,X,X,X] rfl rfl (zo HT_.out (by kernel_rfl)) (fun _ _ _ h => h) (Or.inl ⟨by rfl, ?_⟩) ?_ ?_
  rotate_left
  ·intro w'
   go_simp
   with_reducible rfl
  rotate_left
  ·simp only [Act.put, Ze, Zf, Zg, zl, zm]
   rfl
  refine zq (i := 2) (N := some 7) (v := undef) (a' := ?_) #[O,O,O,X,X,X,X,X,X,X,X,X,X,X,X,X,X,X,X,X,X,X,X,X,X] rfl rfl (zo HT_.out (by kernel_rfl)) (fun _ _ _ h => h) (Or.inr ⟨by rfl, rfl⟩) ?_ ?_
  rotate_left
  ·simp only [Act.put, Ze, Zf, Zg, zl, zm]
   rfl
  refine zq (i := 3) (N := some 8) (v := undef) (a' := ?_) #[O,O,O,O,X,X,X,X,X,X,X,X,X,X,X,X,X,X,X,X,X,X,X,X,X] rfl rfl (zo HT_.out (by kernel_rfl)) (fun _ _ _ h => h) (Or.inr ⟨by rfl, rfl⟩) ?_ ?_
  rotate_left
  ·simp only [Act.put, Ze, Zf, Zg, zl, zm]
   rfl
  refine zq (i := 4) (N := some 9) (v := undef) (a' := ?_) #[O,O,O,O,O,X,X,X,X,X,X,X,X,X,X,X,X,X,X,X,X,X,X,X,X] rfl rfl (zo HT_.out (by kernel_rfl)) (fun _ _ _ h => h) (Or.inr ⟨by rfl, rfl⟩) ?_ ?_
  rotate_left
  ·simp only [Act.put, Ze, Zf, Zg, zl, zm]
   rfl
  refine zq (i := 5) (N := some 10) (v := undef) (a' := ?_) #[O,O,O,O,O,O,X,X,X,X,X,X,X,X,X,X,X,X,X,X,X,X,X,X,X] rfl rfl (zo HT_.out (by kernel_rfl)) (fun _ _ _ h => h) (Or.inr ⟨by rfl, rfl⟩) ?_ ?_
  rotate_left
  ·simp only [Act.put, Ze, Zf, Zg, zl, zm]
   rfl
  refine zq (i := 6) (N := some 11) (v := undef) (a' := ?_) #[O,O,O,O,O,O,O,X,X,X,X,X,X,X,X,X,X,X,X,X,X,X,X,X,X] rfl rfl (zo HT_.out (by kernel_rfl)) (fun _ _ _ h => h) (Or.inr ⟨by rfl, rfl⟩) ?_ ?_
  rotate_left
  ·simp only [Act.put, Ze, Zf, Zg, zl, zm]
   rfl
  refine zq (i := 7) (N := some 12) (v := undef) (a' := ?_) #[O,O,O,O,O,O,O,O,X,X,X,X,X,X,X,X,X,X,X,X,X,X,X,X,X] rfl rfl (zo HT_.out (by kernel_rfl)) (fun _ _ _ h => h) (Or.inr ⟨by rfl, rfl⟩) ?_ ?_
  rotate_left
  ·simp only [Act.put, Ze, Zf, Zg, zl, zm]
   rfl
  refine zq (i := 8) (N := some 13) (v := undef) (a' := ?_) #[O,O,O,O,O,O,O,O,O,X,X,X,X,X,X,X,X,X,X,X,X,X,X,X,X] rfl rfl (zo HT_.out (by kernel_rfl)) (fun _ _ _ h => h) (Or.inr ⟨by rfl, rfl⟩) ?_ ?_
  rotate_left
  ·simp only [Act.put, Ze, Zf, Zg, zl, zm]
   rfl
  refine zq (i := 9) (N := some 14) (v := ?_) (a' := ?_) #[O,O,O,O,O,O,O,O,O,O,X,X,X,X,X,X,X,X,X,X,X,X,X,X,X] rfl rfl (zo HT_.out (by kernel_rfl)) (fun _ _ _ h => h) (Or.inl ⟨by rfl, ?_⟩) ?_ ?_
  rotate_left
  ·intro w'
   go_simp
   with_reducible rfl
  rotate_left
  ·simp only [Act.put, Ze, Zf, Zg, zl, zm]
   rfl
  refine zq (i := 10) (N := some 15) (v := ?_) (a' := ?_) #[O,O,O,O,O,O,O,O,O,O,O,X,X,X,X,X,X,X,X,X,X,X,X,X,X] rfl rfl (zo HT_.out (by kernel_rfl)) (fun _ _ _ h => h) (Or.inl ⟨by rfl, ?_⟩) ?_ ?_
  rotate_left
  ·intro w'
   go_simp
   with_reducible rfl
  rotate_left
  ·simp only [Act.put, Ze, Zf, Zg, zl, zm]
   rfl
  refine zq (i := 11) (N := some 16) (v := undef) (a' := ?_) #[O,O,O,O,O,O,O,O,O,O,O,O,X,X,X,X,X,X,X,X,X,X,X,X,X] rfl rfl (zo HT_.out (by kernel_rfl)) (fun _ _ _ h => h) (Or.inr ⟨by rfl, rfl⟩) ?_ ?_
  rotate_left
  ·simp only [Act.put, Ze, Zf, Zg, zl, zm]
   rfl
  refine zq (i := 12) (N := some 17) (v := undef) (a' := ?_) #[O,O,O,O,O,O,O,O,O,O,O,O,O,X,X,X,X,X,X,X,X,X,X,X,X] rfl rfl (zo HT_.out (by kernel_rfl)) (fun _ _ _ h => h) (Or.inr ⟨by rfl, rfl⟩) ?_ ?_
  rotate_left
  ·simp only [Act.put, Ze, Zf, Zg, zl, zm]
   rfl
  refine zq (i := 13) (N := some 18) (v := undef) (a' := ?_) #[O,O,O,O,O,O,O,O,O,O,O,O,O,O,X,X,X,X,X,X,X,X,X,X,X] rfl rfl (zo HT_.out (by kernel_rfl)) (fun _ _ _ h => h) (Or.inr ⟨by rfl, rfl⟩) ?_ ?_
  rotate_left
  ·simp only [Act.put, Ze, Zf, Zg, zl, zm]
   rfl
  refine zq (i := 14) (N := some 19) (v := ?_) (a' := ?_) #[O,O,O,O,O,O,O,O,O,O,O,O,O,O,O,X,X,X,X,X,X,X,X,X,X] rfl rfl (zo HT_.out (by kernel_rfl)) (fun _ _ _ h => h) (Or.inl ⟨by rfl, ?_⟩) ?_ ?_
  rotate_left
  ·intro w'
   go_simp
   with_reducible rfl
  rotate_left
  ·simp only [Act.put, Ze, Zf, Zg, zl, zm]
   rfl
  refine zq (i := 15) (N := some 20) (v := ?_) (a' := ?_) #[O,O,O,O,O,O,O,O,O,O,O,O,O,O,O,O,X,X,X,X,X,X,X,X,X] rfl rfl (zo HT_.out (by kernel_rfl)) (fun _ _ _ h => h) (Or.inl ⟨by rfl, ?_⟩) ?_ ?_
  rotate_left
  ·intro w'
   go_simp
   with_reducible rfl
  rotate_left
  ·simp only [Act.put, Ze, Zf, Zg, zl, zm]
   rfl
  refine zq (i := 16) (N := some 21) (v := undef) (a' := ?_) #[O,O,O,O,O,O,O,O,O,O,O,O,O,O,O,O,O,X,X,X,X,X,X,X,X] rfl rfl (zo HT_.out (by kernel_rfl)) (fun _ _ _ h => h) (Or.inr ⟨by rfl, rfl⟩) ?_ ?_
  rotate_left
  ·simp only [Act.put, Ze, Zf, Zg, zl, zm]
   rfl
  refine zq (i := 17) (N := some 22) (v := undef) (a' := ?_) #[O,O,O,O,O,O,O,O,O,O,O,O,O,O,O,O,O,O,X,X,X,X,X,X,X] rfl rfl (zo HT_.out (by kernel_rfl)) (fun _ _ _ h => h) (Or.inr ⟨by rfl, rfl⟩) ?_ ?_
  rotate_left
  ·simp only [Act.put, Ze, Zf, Zg, zl, zm]
   rfl
  refine zq (i := 18) (N := some 23) (v := undef) (a' := ?_) #[O,O,O,O,O,O,O,O,O,O,O,O,O,O,O,O,O,O,O,X,X,X,X,X,X] rfl rfl (zo HT_.out (by kernel_rfl)) (fun _ _ _ h => h) (Or.inr ⟨by rfl, rfl⟩) ?_ ?_
  rotate_left
  ·simp only [Act.put, Ze, Zf, Zg, zl, zm]
   rfl
  refine zq (i := 19) (N := some 24) (v := undef) (a' := ?_) #[O,O,O,O,O,O,O,O,O,O,O,O,O,O,O,O,O,O,O,O,X,X,X,X,X] rfl rfl (zo HT_.out (by kernel_rfl)) (fun _ _ _ h => h) (Or.inr ⟨by rfl, rfl⟩) ?_ ?_
  rotate_left
  ·simp only [Act.put, Ze, Zf, Zg, zl, zm]
   rfl
  refine zq (i := 20) (N := some 25) (v := undef) (a' := ?_) #[O,O,O,O,O,O,O,O,O,O,O,O,O,O,O,O,O,O,O,O,O,X,X,X,X] rfl rfl (zo HT_.out (by kernel_rfl)) (fun _ _ _ h => h) (Or.inr ⟨by rfl, rfl⟩) ?_ ?_
  rotate_left
  ·simp only [Act.put, Ze, Zf, Zg, zl, zm]
   rfl
  refine zq (i := 21) (N := some 26) (v := undef) (a' := ?_) #[O,O,O,O,O,O,O,O,O,O,O,O,O,O,O,O,O,O,O,O,O,O,X,X,X] rfl rfl (zo HT_.out (by kernel_rfl)) (fun _ _ _ h => h) (Or.inr ⟨by rfl, rfl⟩) ?_ ?_
  rotate_left
  ·simp only [Act.put, Ze, Zf, Zg, zl, zm]
   rfl
  refine zq (i := 22) (N := some 27) (v := undef) (a' := ?_) #[O,O,O,O,O,O,O,O,O,O,O,O,O,O,O,O,O,O,O,O,O,O,O,X,X] rfl rfl (zo HT_.out (by kernel_rfl)) (fun _ _ _ h => h) (Or.inr ⟨by rfl, rfl⟩) ?_ ?_
  rotate_left
  ·simp only [Act.put, Ze, Zf, Zg, zl, zm]
   rfl
  refine zq (i := 23) (N := some 28) (v := ?_) (a' := ?_) #[O,O,O,O,O,O,O,O,O,O,O,O,O,O,O,O,O,O,O,O,O,O,O,O,X] rfl rfl (zo HT_.out (by kernel_rfl)) (fun _ _ _ h => h) (Or.inl ⟨by rfl, ?_⟩) ?_ ?_
  rotate_left
  ·intro w'
   go_simp
   with_reducible rfl
  rotate_left
  ·simp only [Act.put, Ze, Zf, Zg, zl, zm]
   rfl
  refine zq (i := 24) (N := some 4) (v := ?_) (a' := ?_) #[O,O,O,O,O,O,O,O,O,O,O,O,O,O,O,O,O,O,O,O,O,O,O,O,O] rfl rfl (zo HT_.out (by kernel_rfl)) (fun _ _ _ h => h) (Or.inl ⟨by rfl, ?_⟩) ?_ ?_
  rotate_left
  ·intro w'
   go_simp
   with_reducible rfl
  rotate_left
  ·simp only [Act.put, Ze, Zf, Zg, zl, zm]
   rfl
  refine yZ (yE HT_.out (by kernel_rfl)) ?_
  try go_wp2
  go_ret
  exact ⟨by first | rfl | (simp [zu, zv] <;> rfl) | (simp [*, zu, zv] <;> rfl), by repeat (first | (with_reducible first | exact HB.out | apply zf | apply zd | apply ze | refine zg ?_ GE750.out | refine zg ?_ GE751.out) | exact HB.out)⟩
def zU.Pure : Prop := ∀ (a0_0 : Int) (a0_1 : Int) (a0_2 : Int) (a0_3 : Int) (a0_4 : Int) (l0_5 : List ByteArray) (l0_6 : List (S52)) (l0_7 : List (S46)) (l0_8 : List (S86)) (l0_9 : List (S77)) (a1_0 : Int) (a1_1 : Int) (a1_2 : Int) (a1_3 : Int) (a1_4 : Int) (l1_5 : List ByteArray) (l1_6 : List (S52)) (l1_7 : List (S46)) (l1_8 : List (S86)) (l1_9 : List (S77)), (Lit.int .i64 a0_0).wf = true → (Lit.int .i64 a0_1).wf = true → (Lit.int .i64 a0_2).wf = true → (Lit.int .i64 a0_3).wf = true → (Lit.int .i64 a0_4).wf = true → (l0_5.length * 16 ≤ 140737488351232 ∧ l0_5.length ≤ 9223372036854775807 ∧ ∀ y1 ∈ l0_5, y1.size ≤ 140737488351232) → (l0_6.length * 72 ≤ 140737488351232 ∧ l0_6.length ≤ 9223372036854775807 ∧ ∀ y1 ∈ l0_6, ((Lit.int .i64 y1.f0).wf = true ∧ (Lit.int .i64 y1.f1).wf = true ∧ y1.f2.size ≤ 140737488351232 ∧ (Lit.int .i64 y1.f3).wf = true ∧ (y1.f4.length * 8 ≤ 140737488351232 ∧ y1.f4.length ≤ 9223372036854775807 ∧ ∀ y2 ∈ y1.f4, (Lit.int .i64 y2).wf = true) ∧ (Lit.int .i64 y1.f5).wf = true)) → (l0_7.length * 64 ≤ 140737488351232 ∧ l0_7.length ≤ 9223372036854775807 ∧ ∀ y1 ∈ l0_7, ((Lit.int .i64 y1.f0).wf = true ∧ y1.f1.size ≤ 140737488351232 ∧ (y1.f2.length * 32 ≤ 140737488351232 ∧ y1.f2.length ≤ 9223372036854775807 ∧ ∀ y2 ∈ y1.f2, ((Lit.int .i64 y2.f0).wf = true ∧ (y2.f1.length * 8 ≤ 140737488351232 ∧ y2.f1.length ≤ 9223372036854775807 ∧ ∀ y3 ∈ y2.f1, (Lit.int .i64 y3).wf = true))) ∧ (Lit.int .i64 y1.f3).wf = true ∧ (Lit.int .i64 y1.f4).wf = true)) → (l0_8.length * 56 ≤ 140737488351232 ∧ l0_8.length ≤ 9223372036854775807 ∧ ∀ y1 ∈ l0_8, (y1.f0.size ≤ 140737488351232 ∧ ((Lit.int .i64 y1.f1.f0).wf = true ∧ (Lit.int .i64 y1.f1.f1).wf = true ∧ (y1.f1.f2.length * 8 ≤ 140737488351232 ∧ y1.f1.f2.length ≤ 9223372036854775807 ∧ ∀ y2 ∈ y1.f1.f2, (Lit.int .i64 y2).wf = true)))) → (l0_9.length * 16 ≤ 140737488351232 ∧ l0_9.length ≤ 9223372036854775807 ∧ ∀ y1 ∈ l0_9, ((Lit.int .i64 y1.f0).wf = true ∧ (Lit.int .i64 y1.f1).wf = true)) → (Lit.int .i64 a1_0).wf = true → (Lit.int .i64 a1_1).wf = true → (Lit.int .i64 a1_2).wf = true → (Lit.int .i64 a1_3).wf = true → (Lit.int .i64 a1_4).wf = true → (l1_5.length * 16 ≤ 140737488351232 ∧ l1_5.length ≤ 9223372036854775807 ∧ ∀ y1 ∈ l1_5, y1.size ≤ 140737488351232) → (l1_6.length * 72 ≤ 140737488351232 ∧ l1_6.length ≤ 9223372036854775807 ∧ ∀ y1 ∈ l1_6, ((Lit.int .i64 y1.f0).wf = true ∧ (Lit.int .i64 y1.f1).wf = true ∧ y1.f2.size ≤ 140737488351232 ∧ (Lit.int .i64 y1.f3).wf = true ∧ (y1.f4.length * 8 ≤ 140737488351232 ∧ y1.f4.length ≤ 9223372036854775807 ∧ ∀ y2 ∈ y1.f4, (Lit.int .i64 y2).wf = true) ∧ (Lit.int .i64 y1.f5).wf = true)) → (l1_7.length * 64 ≤ 140737488351232 ∧ l1_7.length ≤ 9223372036854775807 ∧ ∀ y1 ∈ l1_7, ((Lit.int .i64 y1.f0).wf = true ∧ y1.f1.size ≤ 140737488351232 ∧ (y1.f2.length * 32 ≤ 140737488351232 ∧ y1.f2.length ≤ 9223372036854775807 ∧ ∀ y2 ∈ y1.f2, ((Lit.int .i64 y2.f0).wf = true ∧ (y2.f1.length * 8 ≤ 140737488351232 ∧ y2.f1.length ≤ 9223372036854775807 ∧ ∀ y3 ∈ y2.f1, (Lit.int .i64 y3).wf = true))) ∧ (Lit.int .i64 y1.f3).wf = true ∧ (Lit.int .i64 y1.f4).wf = true)) → (l1_8.length * 56 ≤ 140737488351232 ∧ l1_8.length ≤ 9223372036854775807 ∧ ∀ y1 ∈ l1_8, (y1.f0.size ≤ 140737488351232 ∧ ((Lit.int .i64 y1.f1.f0).wf = true ∧ (Lit.int .i64 y1.f1.f1).wf = true ∧ (y1.f1.f2.length * 8 ≤ 140737488351232 ∧ y1.f1.f2.length ≤ 9223372036854775807 ∧ ∀ y2 ∈ y1.f1.f2, (Lit.int .i64 y2).wf = true)))) → (l1_9.length * 16 ≤ 140737488351232 ∧ l1_9.length ≤ 9223372036854775807 ∧ ∀ y1 ∈ l1_9, ((Lit.int .i64 y1.f0).wf = true ∧ (Lit.int .i64 y1.f1).wf = true)) → ∃ k, zU.f k a0_0 a0_1 a0_2 a0_3 a0_4 l0_5 l0_6 l0_7 l0_8 l0_9 a1_0 a1_1 a1_2 a1_3 a1_4 l1_5 l1_6 l1_7 l1_8 l1_9 = some true
def yf (o : Option Bool) (p : Prop) : Prop := ∃ b, o = some b ∧ (b = true ↔ p)
theorem yf.iff {o : Option Bool} {p q : Prop} (h : yf o p) (e : p ↔ q) : yf o q := by
 obtain ⟨b, h1, h2⟩ := h
 exact ⟨b, h1, h2.trans e⟩
theorem z7 {p q : Prop} [Decidable p] {o : Option Bool} (h : yf o q) : yf (if p then o else some false) (p ∧ q) := by
 by_cases hp : p
 ·rw [if_pos hp]
  exact h.iff ⟨fun x => ⟨hp, x⟩, fun x => x.2⟩
 ·rw [if_neg hp]
  exact ⟨false, rfl, by simp [hp]⟩
theorem yY {o : Option Bool} {q : Prop} (h : yf o q) : yf (o.bind fun t => some t) q := by
 obtain ⟨b, rfl, h2⟩ := h
 exact ⟨b, rfl, h2⟩
theorem yV {o o' : Option Bool} {p q : Prop} (h : yf o p) (h' : yf o' q) : yf (o.bind fun t => if t = true then o' else some false) (p ∧ q) := by
 obtain ⟨b, rfl, h2⟩ := h
 cases b with
 | true => exact h'.iff ⟨fun x => ⟨h2.1 rfl, x⟩, fun x => x.2⟩
 | false => exact ⟨false, rfl, by simp at h2; simp [h2]⟩
theorem vk (a b : Int) : yf (some (a == b)) (a = b) := ⟨_, rfl, beq_iff_eq⟩
theorem xx (p : Prop) [Decidable p] : yf (some (decide p)) p := ⟨_, rfl, decide_eq_true_iff⟩
theorem yw {α : Type} {x y : List α} {o : Option Bool} (h : x.length = y.length → yf o (x = y)) : yf (if (x.length : Int) = (y.length : Int) then o else some false) (x = y) := by
 by_cases e : x.length = y.length
 ·rw [if_pos (by omega)]
  exact h e
 ·rw [if_neg (by omega)]
  exact ⟨false, rfl, by simp; intro h; exact e (by rw [h])⟩
theorem qr (p : Prop) [Decidable p] (R : Option Bool) : (if p then R else some false) = (some (decide p)).bind fun b => if b = true then R else some false := by
 by_cases h : p <;> simp [h]
theorem qh (p : Prop) [Decidable p] (o : Option Bool) (R : Option Bool) : (if p then (o.bind fun b => if b = true then R else some false) else some false) = (if p then o else some false).bind fun b => if b = true then R else some false := by
 by_cases h : p <;> simp [h]
theorem jz (a b c d : Int) (R : Option Bool) : (if (!(a == b) || !(c == d)) = true then some false else R) = (some (decide (a = b ∧ c = d))).bind fun b => if b = true then R else some false := by
 by_cases h1 : a = b <;> by_cases h2 : c = d <;> simp [h1, h2]
theorem jM {α : Type} (L : Nat → Int → Option Bool) (x y : List α) (hl : x.length = y.length) (M : Nat)
  (hend : ∀ k, L (k + 1) (x.length : Int) = some true)
  (hstep : ∀ (k i : Nat) (h0 : i < x.length) (h1 : i < y.length), M ≤ k → ∃ o : Option Bool, yf o (x[i] = y[i]) ∧ L (k + 1) (i : Int) = o.bind fun b => if b = true then L k ((i + 1 : Nat) : Int) else some false) (d : Nat) :
  ∀ (k i : Nat), i + d = x.length → M + d + 1 ≤ k → yf (L k (i : Int)) (x.drop i = y.drop i) := by
 induction d with
 | zero =>
  intro k i hi hk
  obtain ⟨k, rfl⟩ : ∃ m, k = m + 1 := ⟨k - 1, by omega⟩
  obtain rfl : i = x.length := by omega
  exact ⟨true, hend k, by simp [hl]⟩
 | succ d ih =>
  intro k i hi hk
  obtain ⟨k, rfl⟩ : ∃ m, k = m + 1 := ⟨k - 1, by omega⟩
  have h0 : i < x.length := by omega
  have h1 : i < y.length := by omega
  obtain ⟨o, ho, e⟩ := hstep k i h0 h1 (by omega)
  rw [e, List.drop_eq_getElem_cons h0, List.drop_eq_getElem_cons h1]
  refine (yV ho (ih k (i + 1) (by omega) (by omega))).iff ?_
  rw [List.cons.injEq]
theorem yx {α : Type} (L : Nat → Int → Option Bool) (x y : List α) (hl : x.length = y.length) (M k : Nat) (hk : M + x.length + 1 ≤ k)
  (hend : ∀ k, L (k + 1) (x.length : Int) = some true)
  (hstep : ∀ (k i : Nat) (h0 : i < x.length) (h1 : i < y.length), M ≤ k → ∃ o : Option Bool, yf o (x[i] = y[i]) ∧ L (k + 1) (i : Int) = o.bind fun b => if b = true then L k ((i + 1 : Nat) : Int) else some false) : yf (L k 0) (x = y) := by
 have := jM L x y hl M hend hstep x.length k 0 (by omega) hk
 rwa [List.drop_zero, List.drop_zero] at this
theorem qT (l : List Int) (i : Nat) (h : i < l.length) : rd l (i : Int) = l[i] := by simp [rd, h]
theorem qK (l : List ByteArray) (i : Nat) (h : i < l.length) : yJ ByteArray.empty l (i : Int) = l[i] := by simp [yJ, h]
theorem qm (l : List S52) (i : Nat) (h : i < l.length) : zp l (i : Int) = l[i] := by simp [zp, h]
theorem ql (l : List S46) (i : Nat) (h : i < l.length) : zn l (i : Int) = l[i] := by simp [zn, h]
theorem qt (l : List S86) (i : Nat) (h : i < l.length) : zt l (i : Int) = l[i] := by simp [zt, h]
theorem qo (l : List S77) (i : Nat) (h : i < l.length) : yg l (i : Int) = l[i] := by simp [yg, h]
theorem x4 (l : List S108) (i : Nat) (h : i < l.length) : zM l (i : Int) = l[i] := by simp [zM, h]
theorem vH (a b : S52) : a = b ↔ a.f0 = b.f0 ∧ a.f1 = b.f1 ∧ a.f2 = b.f2 ∧ a.f3 = b.f3 ∧ a.f4 = b.f4 ∧ a.f5 = b.f5 := by
 cases a
 cases b
 simp
theorem vz (a b : S46) : a = b ↔ a.f0 = b.f0 ∧ a.f1 = b.f1 ∧ a.f2 = b.f2 ∧ a.f3 = b.f3 ∧ a.f4 = b.f4 := by
 cases a
 cases b
 simp
theorem vB (a b : S77) : a = b ↔ a.f0 = b.f0 ∧ a.f1 = b.f1 := by
 cases a
 cases b
 simp
theorem j1 (a b : S108) : a = b ↔ a.f0 = b.f0 ∧ a.f1 = b.f1 := by
 cases a
 cases b
 simp
theorem vF (a b : S86) : a = b ↔ a.f0 = b.f0 ∧ a.f1.f0 = b.f1.f0 ∧ a.f1.f1 = b.f1.f1 ∧ a.f1.f2 = b.f1.f2 := by
 obtain ⟨a0, a1, a2, a3⟩ := a
 obtain ⟨b0, b1, b2, b3⟩ := b
 simp
theorem yS (x y : List Int) (hb : x.length ≤ 9223372036854775807) (k : Nat) (hk : 10000000000000000000 ≤ k) : yf (zW.f k x y) (x = y) := by
 unfold zW.f
 refine yw fun hl => ?_
 refine yx (fun k i => zW.l0 k x y (x.length : Int) i) x y hl 0 k (by omega) (fun k => ?_) (fun k i h0 h1 hk => ?_)
 ·show zW.l0 (k + 1) x y (x.length : Int) _ = _
  rw [zW.l0, if_neg (by omega)]
 ·have ei := yP (i := (i : Int)) (by omega) (by omega)
  show ∃ o, _ ∧ zW.l0 (k + 1) x y (x.length : Int) _ = _
  rw [zW.l0, if_pos (by omega), if_pos (by omega), if_pos (by omega), if_pos (by omega), qT x i h0, qT y i h1, ei]
  rw [qr]
  exact ⟨_, xx _, rfl⟩
theorem xf (x y : List Int) (hb : x.length ≤ 9223372036854775807) (k : Nat) (hk : 10000000000000000000 ≤ k) : yf (zV.f k x y) (x = y) := by
 unfold zV.f
 refine yw fun hl => ?_
 refine yx (fun k i => zV.l0 k x y i) x y hl 0 k (by omega) (fun k => ?_) (fun k i h0 h1 hk => ?_)
 ·show zV.l0 (k + 1) x y _ = _
  rw [zV.l0, if_neg (by omega)]
 ·have ei := yP (i := (i : Int)) (by omega) (by omega)
  show ∃ o, _ ∧ zV.l0 (k + 1) x y _ = _
  rw [zV.l0, if_pos (by omega), if_pos (by omega), if_pos (by omega), qT x i h0, qT y i h1, ei]
  rw [qr]
  exact ⟨_, xx _, rfl⟩
theorem xA (x y : List ByteArray) (hb : x.length ≤ 9223372036854775807) (k : Nat) (hk : 10000000000000000000 ≤ k) : yf (zP.f k x y) (x = y) := by
 unfold zP.f
 refine yw fun hl => ?_
 refine yx (fun k i => zP.l0 k x y (x.length : Int) i) x y hl 0 k (by omega) (fun k => ?_) (fun k i h0 h1 hk => ?_)
 ·show zP.l0 (k + 1) x y (x.length : Int) _ = _
  rw [zP.l0, if_neg (by omega)]
 ·have ei := yP (i := (i : Int)) (by omega) (by omega)
  show ∃ o, _ ∧ zP.l0 (k + 1) x y (x.length : Int) _ = _
  rw [zP.l0, if_pos (by omega), if_pos (by omega), if_pos (by omega), if_pos (by omega), qK x i h0, qK y i h1, ei]
  rw [qr]
  exact ⟨_, (xx _).iff xb, rfl⟩
theorem qd (x y : List ByteArray) (hb : x.length ≤ 9223372036854775807) (k : Nat) (hk : 10000000000000000000 ≤ k) : yf (z4.f k x y) (x = y) := by
 unfold z4.f
 refine yw fun hl => ?_
 refine yx (fun k i => z4.l0 k x y i) x y hl 0 k (by omega) (fun k => ?_) (fun k i h0 h1 hk => ?_)
 ·show z4.l0 (k + 1) x y _ = _
  rw [z4.l0, if_neg (by omega)]
 ·have ei := yP (i := (i : Int)) (by omega) (by omega)
  show ∃ o, _ ∧ z4.l0 (k + 1) x y _ = _
  rw [z4.l0, if_pos (by omega), if_pos (by omega), if_pos (by omega), qK x i h0, qK y i h1, ei]
  rw [qr]
  exact ⟨_, (xx _).iff xb, rfl⟩
theorem qJ (x y : List S77) (hb : x.length ≤ 9223372036854775807) (k : Nat) (hk : 10000000000000000000 ≤ k) : yf (yb.f k x y) (x = y) := by
 unfold yb.f
 refine yw fun hl => ?_
 refine yx (fun k i => yb.l0 k x y (x.length : Int) i) x y hl 0 k (by omega) (fun k => ?_) (fun k i h0 h1 hk => ?_)
 ·show yb.l0 (k + 1) x y (x.length : Int) _ = _
  rw [yb.l0, if_neg (by omega)]
 ·have ei := yP (i := (i : Int)) (by omega) (by omega)
  show ∃ o, _ ∧ yb.l0 (k + 1) x y (x.length : Int) _ = _
  rw [yb.l0, if_pos (by omega), if_pos (by omega), if_pos (by omega), if_pos (by omega), qo x i h0, qo y i h1, ei]
  rw [jz]
  exact ⟨_, (xx _).iff (vB _ _).symm, rfl⟩
theorem xB (x y : List S77) (hb : x.length ≤ 9223372036854775807) (k : Nat) (hk : 10000000000000000000 ≤ k) : yf (zK.f k x y) (x = y) := by
 unfold zK.f
 refine yw fun hl => ?_
 refine yx (fun k i => zK.l0 k x y i) x y hl 0 k (by omega) (fun k => ?_) (fun k i h0 h1 hk => ?_)
 ·show zK.l0 (k + 1) x y _ = _
  rw [zK.l0, if_neg (by omega)]
 ·have ei := yP (i := (i : Int)) (by omega) (by omega)
  show ∃ o, _ ∧ zK.l0 (k + 1) x y _ = _
  rw [zK.l0, if_pos (by omega), if_pos (by omega), if_pos (by omega), qo x i h0, qo y i h1, ei]
  rw [jz]
  exact ⟨_, (xx _).iff (vB _ _).symm, rfl⟩
theorem qk (a b : S108) (ha : a.f1.length ≤ 9223372036854775807) (k : Nat) (hk : 10000000000000000000 ≤ k) : yf (yC.f k a.f0 a.f1 b.f0 b.f1) (a = b) := by
 unfold yC.f
 exact (z7 (yY (yS a.f1 b.f1 ha k (by omega)))).iff (j1 a b).symm
theorem xk (x y : List S108) (hb : x.length ≤ 9223372036854775807) (hx : ∀ a ∈ x, a.f1.length ≤ 9223372036854775807) (k : Nat) (hk : 20000000000000000000 ≤ k) : yf (zG.f k x y) (x = y) := by
 unfold zG.f
 refine yw fun hl => ?_
 refine yx (fun k i => zG.l0 k y x (x.length : Int) i) x y hl 10000000000000000000 k (by omega) (fun k => ?_) (fun k i h0 h1 hk => ?_)
 ·show zG.l0 (k + 1) y x (x.length : Int) _ = _
  rw [zG.l0, if_neg (by omega)]
 ·have ei := yP (i := (i : Int)) (by omega) (by omega)
  have ha := hx x[i] (List.getElem_mem h0)
  show ∃ o, _ ∧ zG.l0 (k + 1) y x (x.length : Int) _ = _
  rw [zG.l0, if_pos (by omega), if_pos (by omega), if_pos (by omega), if_pos (by omega), x4 x i h0, x4 y i h1, ei]
  exact ⟨_, qk x[i] y[i] ha k (by omega), rfl⟩
theorem jo (x y : List S108) (hb : x.length ≤ 9223372036854775807) (hx : ∀ a ∈ x, a.f1.length ≤ 9223372036854775807) (k : Nat) (hk : 20000000000000000000 ≤ k) : yf (yd.f k x y) (x = y) := by
 unfold yd.f
 exact yY (xk x y hb hx k hk)
theorem xY (x y : List S108) (hb : x.length ≤ 9223372036854775807) (hx : ∀ a ∈ x, a.f1.length ≤ 9223372036854775807) (k : Nat) (hk : 20000000000000000000 ≤ k) : yf (z3.f k x y) (x = y) := by
 unfold z3.f
 refine yw fun hl => ?_
 refine yx (fun k i => z3.l0 k x y i) x y hl 10000000000000000000 k (by omega) (fun k => ?_) (fun k i h0 h1 hk => ?_)
 ·show z3.l0 (k + 1) x y _ = _
  rw [z3.l0, if_neg (by omega)]
 ·have ei := yP (i := (i : Int)) (by omega) (by omega)
  have ha := hx x[i] (List.getElem_mem h0)
  show ∃ o, _ ∧ z3.l0 (k + 1) x y _ = _
  rw [z3.l0, if_pos (by omega), if_pos (by omega), if_pos (by omega), x4 x i h0, x4 y i h1, ei]
  rw [qh]
  exact ⟨_, (z7 (xf x[i].f1 y[i].f1 ha k (by omega))).iff (j1 _ _).symm, rfl⟩
theorem qw (a b : S52) (ha : a.f4.length ≤ 9223372036854775807) (k : Nat) (hk : 10000000000000000000 ≤ k) : yf (yL.f k a.f0 a.f1 a.f2 a.f3 a.f4 a.f5 b.f0 b.f1 b.f2 b.f3 b.f4 b.f5) (a = b) := by
 unfold yL.f
 refine (z7 (z7 (z7 (z7 (z7 (yY (yS a.f4 b.f4 ha k (by omega)))))))).iff ?_
 rw [vH, xb]
 exact ⟨fun ⟨h0, h1, h2, h3, h5, h4⟩ => ⟨h0, h1, h2, h3, h4, h5⟩, fun ⟨h0, h1, h2, h3, h4, h5⟩ => ⟨h0, h1, h2, h3, h5, h4⟩⟩
theorem xS (a b : S52) (ha : a.f4.length ≤ 9223372036854775807) (k : Nat) (hk : 10000000000000000000 ≤ k) : yf (yn.f k a.f0 a.f1 a.f2 a.f3 a.f4 a.f5 b.f0 b.f1 b.f2 b.f3 b.f4 b.f5) (a = b) := by
 unfold yn.f
 refine (z7 (z7 (z7 (z7 (yV (xf a.f4 b.f4 ha k (by omega)) (vk _ _)))))).iff ?_
 rw [vH, xb]
theorem xu (x y : List S52) (hb : x.length ≤ 9223372036854775807) (hx : ∀ a ∈ x, a.f4.length ≤ 9223372036854775807) (k : Nat) (hk : 20000000000000000000 ≤ k) : yf (zO.f k x y) (x = y) := by
 unfold zO.f
 refine yw fun hl => ?_
 refine yx (fun k i => zO.l0 k y x (x.length : Int) i) x y hl 10000000000000000000 k (by omega) (fun k => ?_) (fun k i h0 h1 hk => ?_)
 ·show zO.l0 (k + 1) y x (x.length : Int) _ = _
  rw [zO.l0, if_neg (by omega)]
 ·have ei := yP (i := (i : Int)) (by omega) (by omega)
  have ha := hx x[i] (List.getElem_mem h0)
  show ∃ o, _ ∧ zO.l0 (k + 1) y x (x.length : Int) _ = _
  rw [zO.l0, if_pos (by omega), if_pos (by omega), if_pos (by omega), if_pos (by omega), qm x i h0, qm y i h1, ei]
  exact ⟨_, qw x[i] y[i] ha k (by omega), rfl⟩
theorem q7 (x y : List S52) (hb : x.length ≤ 9223372036854775807) (hx : ∀ a ∈ x, a.f4.length ≤ 9223372036854775807) (k : Nat) (hk : 20000000000000000000 ≤ k) : yf (z5.f k x y) (x = y) := by
 unfold z5.f
 exact yY (xu x y hb hx k hk)
theorem xO (x y : List S52) (hb : x.length ≤ 9223372036854775807) (hx : ∀ a ∈ x, a.f4.length ≤ 9223372036854775807) (k : Nat) (hk : 20000000000000000000 ≤ k) : yf (zE.f k x y) (x = y) := by
 unfold zE.f
 refine yw fun hl => ?_
 refine yx (fun k i => zE.l0 k x y i) x y hl 10000000000000000000 k (by omega) (fun k => ?_) (fun k i h0 h1 hk => ?_)
 ·show zE.l0 (k + 1) x y _ = _
  rw [zE.l0, if_neg (by omega)]
 ·have ei := yP (i := (i : Int)) (by omega) (by omega)
  have ha := hx x[i] (List.getElem_mem h0)
  show ∃ o, _ ∧ zE.l0 (k + 1) x y _ = _
  rw [zE.l0, if_pos (by omega), if_pos (by omega), if_pos (by omega), qm x i h0, qm y i h1, ei]
  exact ⟨_, xS x[i] y[i] ha k (by omega), rfl⟩
theorem qf (a b : S46) (ha : a.f2.length ≤ 9223372036854775807 ∧ ∀ v ∈ a.f2, v.f1.length ≤ 9223372036854775807) (k : Nat) (hk : 20000000000000000000 ≤ k) : yf (yB.f k a.f0 a.f1 a.f2 a.f3 a.f4 b.f0 b.f1 b.f2 b.f3 b.f4) (a = b) := by
 unfold yB.f
 refine (z7 (z7 (z7 (z7 (yY (jo a.f2 b.f2 ha.1 ha.2 k (by omega))))))).iff ?_
 rw [vz, xb]
 exact ⟨fun ⟨h0, h1, h3, h4, h2⟩ => ⟨h0, h1, h2, h3, h4⟩, fun ⟨h0, h1, h2, h3, h4⟩ => ⟨h0, h1, h3, h4, h2⟩⟩
theorem xp (x y : List S46) (hb : x.length ≤ 9223372036854775807) (hx : ∀ a ∈ x, a.f2.length ≤ 9223372036854775807 ∧ ∀ v ∈ a.f2, v.f1.length ≤ 9223372036854775807) (k : Nat) (hk : 30000000000000000000 ≤ k) : yf (zI.f k x y) (x = y) := by
 unfold zI.f
 refine yw fun hl => ?_
 refine yx (fun k i => zI.l0 k y x (x.length : Int) i) x y hl 20000000000000000000 k (by omega) (fun k => ?_) (fun k i h0 h1 hk => ?_)
 ·show zI.l0 (k + 1) y x (x.length : Int) _ = _
  rw [zI.l0, if_neg (by omega)]
 ·have ei := yP (i := (i : Int)) (by omega) (by omega)
  have ha := hx x[i] (List.getElem_mem h0)
  show ∃ o, _ ∧ zI.l0 (k + 1) y x (x.length : Int) _ = _
  rw [zI.l0, if_pos (by omega), if_pos (by omega), if_pos (by omega), if_pos (by omega), ql x i h0, ql y i h1, ei]
  exact ⟨_, qf x[i] y[i] ha k (by omega), rfl⟩
theorem qG (x y : List S46) (hb : x.length ≤ 9223372036854775807) (hx : ∀ a ∈ x, a.f2.length ≤ 9223372036854775807 ∧ ∀ v ∈ a.f2, v.f1.length ≤ 9223372036854775807) (k : Nat) (hk : 30000000000000000000 ≤ k) : yf (zY.f k x y) (x = y) := by
 unfold zY.f
 exact yY (xp x y hb hx k hk)
theorem xF (x y : List S46) (hb : x.length ≤ 9223372036854775807) (hx : ∀ a ∈ x, a.f2.length ≤ 9223372036854775807 ∧ ∀ v ∈ a.f2, v.f1.length ≤ 9223372036854775807) (k : Nat) (hk : 30000000000000000000 ≤ k) : yf (zz.f k x y) (x = y) := by
 unfold zz.f
 refine yw fun hl => ?_
 refine yx (fun k i => zz.l0 k x y i) x y hl 20000000000000000000 k (by omega) (fun k => ?_) (fun k i h0 h1 hk => ?_)
 ·show zz.l0 (k + 1) x y _ = _
  rw [zz.l0, if_neg (by omega)]
 ·have ei := yP (i := (i : Int)) (by omega) (by omega)
  have ha := hx x[i] (List.getElem_mem h0)
  show ∃ o, _ ∧ zz.l0 (k + 1) x y _ = _
  rw [zz.l0, if_pos (by omega), if_pos (by omega), if_pos (by omega), ql x i h0, ql y i h1, ei]
  rw [qh, qh, qh, qh]
  refine ⟨_, (z7 (z7 (z7 (z7 (xY x[i].f2 y[i].f2 ha.1 ha.2 k (by omega)))))).iff ?_, rfl⟩
  rw [vz, xb]
  exact ⟨fun ⟨h0, h1, h3, h4, h2⟩ => ⟨h0, h1, h2, h3, h4⟩, fun ⟨h0, h1, h2, h3, h4⟩ => ⟨h0, h1, h3, h4, h2⟩⟩
theorem qp (a b : S86) (ha : a.f1.f2.length ≤ 9223372036854775807) (k : Nat) (hk : 10000000000000000000 ≤ k) : yf (yH.f k a.f0 a.f1.f0 a.f1.f1 a.f1.f2 b.f0 b.f1.f0 b.f1.f1 b.f1.f2) (a = b) := by
 unfold yH.f
 refine (z7 (z7 (z7 (yY (yS a.f1.f2 b.f1.f2 ha k (by omega)))))).iff ?_
 rw [vF, xb]
theorem xr (x y : List S86) (hb : x.length ≤ 9223372036854775807) (hx : ∀ a ∈ x, a.f1.f2.length ≤ 9223372036854775807) (k : Nat) (hk : 20000000000000000000 ≤ k) : yf (zL.f k x y) (x = y) := by
 unfold zL.f
 refine yw fun hl => ?_
 refine yx (fun k i => zL.l0 k y x (x.length : Int) i) x y hl 10000000000000000000 k (by omega) (fun k => ?_) (fun k i h0 h1 hk => ?_)
 ·show zL.l0 (k + 1) y x (x.length : Int) _ = _
  rw [zL.l0, if_neg (by omega)]
 ·have ei := yP (i := (i : Int)) (by omega) (by omega)
  have ha := hx x[i] (List.getElem_mem h0)
  show ∃ o, _ ∧ zL.l0 (k + 1) y x (x.length : Int) _ = _
  rw [zL.l0, if_pos (by omega), if_pos (by omega), if_pos (by omega), if_pos (by omega), qt x i h0, qt y i h1, ei]
  exact ⟨_, qp x[i] y[i] ha k (by omega), rfl⟩
theorem qO (x y : List S86) (hb : x.length ≤ 9223372036854775807) (hx : ∀ a ∈ x, a.f1.f2.length ≤ 9223372036854775807) (k : Nat) (hk : 20000000000000000000 ≤ k) : yf (zX.f k x y) (x = y) := by
 unfold zX.f
 exact yY (xr x y hb hx k hk)
theorem qe (a b : S84) (ha : a.f2.length ≤ 9223372036854775807) (k : Nat) (hk : 10000000000000000000 ≤ k) : yf (yu.f k a.f0 a.f1 a.f2 b.f0 b.f1 b.f2) (a.f0 = b.f0 ∧ a.f1 = b.f1 ∧ a.f2 = b.f2) := by
 unfold yu.f
 exact z7 (z7 (yY (xf a.f2 b.f2 ha k (by omega))))
theorem xM (x y : List S86) (hb : x.length ≤ 9223372036854775807) (hx : ∀ a ∈ x, a.f1.f2.length ≤ 9223372036854775807) (k : Nat) (hk : 20000000000000000000 ≤ k) : yf (zD.f k x y) (x = y) := by
 unfold zD.f
 refine yw fun hl => ?_
 refine yx (fun k i => zD.l0 k x y i) x y hl 10000000000000000000 k (by omega) (fun k => ?_) (fun k i h0 h1 hk => ?_)
 ·show zD.l0 (k + 1) x y _ = _
  rw [zD.l0, if_neg (by omega)]
 ·have ei := yP (i := (i : Int)) (by omega) (by omega)
  have ha := hx x[i] (List.getElem_mem h0)
  show ∃ o, _ ∧ zD.l0 (k + 1) x y _ = _
  rw [zD.l0, if_pos (by omega), if_pos (by omega), if_pos (by omega), qt x i h0, qt y i h1, ei]
  rw [qh]
  refine ⟨_, (z7 (qe x[i].f1 y[i].f1 ha k (by omega))).iff ?_, rfl⟩
  rw [vF, xb]
def FrOK (l5 : List ByteArray) (l6 : List S52) (l7 : List S46) (l8 : List S86) (l9 : List S77) : Prop := l5.length ≤ 9223372036854775807 ∧ (l6.length ≤ 9223372036854775807 ∧ ∀ a ∈ l6, a.f4.length ≤ 9223372036854775807) ∧ (l7.length ≤ 9223372036854775807 ∧ ∀ a ∈ l7, a.f2.length ≤ 9223372036854775807 ∧ ∀ v ∈ a.f2, v.f1.length ≤ 9223372036854775807) ∧ (l8.length ≤ 9223372036854775807 ∧ ∀ a ∈ l8, a.f1.f2.length ≤ 9223372036854775807) ∧ l9.length ≤ 9223372036854775807
theorem jp (a0 a1 a2 a3 a4 : Int) (l5 : List ByteArray) (l6 : List S52) (l7 : List S46) (l8 : List S86) (l9 : List S77) (b0 b1 b2 b3 b4 : Int) (m5 : List ByteArray) (m6 : List S52) (m7 : List S46) (m8 : List S86) (m9 : List S77) (h : FrOK l5 l6 l7 l8 l9) (k : Nat) (hk : 40000000000000000000 ≤ k) : yf (yi.f k a0 a1 a2 a3 a4 l5 l6 l7 l8 l9 b0 b1 b2 b3 b4 m5 m6 m7 m8 m9) (a0 = b0 ∧ a1 = b1 ∧ a2 = b2 ∧ a3 = b3 ∧ a4 = b4 ∧ l5 = m5 ∧ l6 = m6 ∧ l7 = m7 ∧ l8 = m8 ∧ l9 = m9) := by
 obtain ⟨h5, h6, h7, h8, h9⟩ := h
 unfold yi.f
 exact z7 (z7 (z7 (z7 (z7 (yV (qd l5 m5 h5 k (by omega)) (yV (xO l6 m6 h6.1 h6.2 k (by omega)) (yV (xF l7 m7 h7.1 h7.2 k (by omega)) (yV (xM l8 m8 h8.1 h8.2 k (by omega)) (yY (xB l9 m9 h9 k (by omega)))))))))))
theorem qq (a0 a1 a2 a3 a4 : Int) (l5 : List ByteArray) (l6 : List S52) (l7 : List S46) (l8 : List S86) (l9 : List S77) (b0 b1 b2 b3 b4 : Int) (m5 : List ByteArray) (m6 : List S52) (m7 : List S46) (m8 : List S86) (m9 : List S77) (h : FrOK l5 l6 l7 l8 l9) (k : Nat) (hk : 40000000000000000000 ≤ k) : yf (zH.f (k + 1) a0 a1 a2 a3 a4 l5 l6 l7 l8 l9 b0 b1 b2 b3 b4 m5 m6 m7 m8 m9) (a0 = b0 ∧ a1 = b1 ∧ a2 = b2 ∧ a3 = b3 ∧ a4 = b4 ∧ l5 = m5 ∧ l6 = m6 ∧ l7 = m7 ∧ l8 = m8 ∧ l9 = m9) := by
 obtain ⟨h5, h6, h7, h8, h9⟩ := h
 have hj : ∀ b, zH.j0 (k + 1) b a0 a1 a2 a3 a4 l5 l6 l7 l8 l9 b0 b1 b2 b3 b4 m5 m6 m7 m8 m9 = if b = true then zH.j0 (k + 1) true a0 a1 a2 a3 a4 l5 l6 l7 l8 l9 b0 b1 b2 b3 b4 m5 m6 m7 m8 m9 else some false := by
  intro b
  cases b with
  | true => rw [if_pos rfl]
  | false => rw [zH.j0, if_neg (by decide), if_neg (by decide)]
 have ht : yf (zH.j0 (k + 1) true a0 a1 a2 a3 a4 l5 l6 l7 l8 l9 b0 b1 b2 b3 b4 m5 m6 m7 m8 m9) (l5 = m5 ∧ l9 = m9 ∧ l6 = m6 ∧ l7 = m7 ∧ l8 = m8) := by
  rw [zH.j0, if_pos rfl]
  exact yV (xA l5 m5 h5 k (by omega)) (yV (qJ l9 m9 h9 k (by omega)) (yV (q7 l6 m6 h6.1 h6.2 k (by omega)) (yV (qG l7 m7 h7.1 h7.2 k (by omega)) (yY (qO l8 m8 h8.1 h8.2 k (by omega))))))
 have hjf := hj false
 rw [if_neg (by decide)] at hjf
 unfold zH.f
 rw [hj (a4 == b4), hjf]
 have h4 : yf (if (a4 == b4) = true then zH.j0 (k + 1) true a0 a1 a2 a3 a4 l5 l6 l7 l8 l9 b0 b1 b2 b3 b4 m5 m6 m7 m8 m9 else some false) (a4 = b4 ∧ _) := (z7 ht).iff (by rw [beq_iff_eq])
 refine (z7 (z7 (z7 (z7 h4)))).iff ?_
 exact ⟨fun ⟨h0, h1, h2, h3, h4, h5, h9, h6, h7, h8⟩ => ⟨h0, h1, h2, h3, h4, h5, h6, h7, h8, h9⟩, fun ⟨h0, h1, h2, h3, h4, h5, h6, h7, h8, h9⟩ => ⟨h0, h1, h2, h3, h4, h5, h9, h6, h7, h8⟩⟩
end Go.Proofs.YtepipnpfggnadaaGreat.Q
namespace Go.Proofs.YtepipnpfggnadaaGreat.Pure
open Go.Proofs.YtepipnpfggnadaaGreat.Q
open Go.RowKit Go.Proofs.YtepipnpfggnadaaGreatW.PrintWords Go.Proofs.YtepipnpfggnadaaGreatW.PrintLast Go.Proofs.YtepipnpfggnadaaGreatW.PrintMore
theorem FramesSame : zU.Pure := by
 intro a0 a1 a2 a3 a4 l5 l6 l7 l8 l9 b0 b1 b2 b3 b4 m5 m6 m7 m8 m9 _ _ _ _ _ h5 h6 h7 h8 h9 _ _ _ _ _ g5 g6 g7 g8 g9
 have hf : FrOK l5 l6 l7 l8 l9 := ⟨h5.2.1, ⟨h6.2.1, fun a ha => (h6.2.2 a ha).2.2.2.2.1.2.1⟩, ⟨h7.2.1, fun a ha => ⟨(h7.2.2 a ha).2.2.1.2.1, fun v hv => ((h7.2.2 a ha).2.2.1.2.2 v hv).2.2.1⟩⟩, ⟨h8.2.1, fun a ha => (h8.2.2 a ha).2.2.2.2.1⟩, h9.2.1⟩
 have hg : FrOK m5 m6 m7 m8 m9 := ⟨g5.2.1, ⟨g6.2.1, fun a ha => (g6.2.2 a ha).2.2.2.2.1.2.1⟩, ⟨g7.2.1, fun a ha => ⟨(g7.2.2 a ha).2.2.1.2.1, fun v hv => ((g7.2.2 a ha).2.2.1.2.2 v hv).2.2.1⟩⟩, ⟨g8.2.1, fun a ha => (g8.2.2 a ha).2.2.2.2.1⟩, g9.2.1⟩
 obtain ⟨k, hk⟩ : ∃ k, k = 40000000000000000000 := ⟨_, rfl⟩
 obtain ⟨r1, e1, i1⟩ := qq a0 a1 a2 a3 a4 l5 l6 l7 l8 l9 b0 b1 b2 b3 b4 m5 m6 m7 m8 m9 hf k (by omega)
 obtain ⟨r2, e2, i2⟩ := jp a0 a1 a2 a3 a4 l5 l6 l7 l8 l9 b0 b1 b2 b3 b4 m5 m6 m7 m8 m9 hf (k + 1) (by omega)
 obtain ⟨r3, e3, i3⟩ := qq a0 a1 a2 a3 a4 l5 l6 l7 l8 l9 a0 a1 a2 a3 a4 l5 l6 l7 l8 l9 hf k (by omega)
 obtain ⟨r4, e4, i4⟩ := qq b0 b1 b2 b3 b4 m5 m6 m7 m8 m9 a0 a1 a2 a3 a4 l5 l6 l7 l8 l9 hg k (by omega)
 have q2 : r1 = r2 := Bool.eq_iff_iff.2 (i1.trans i2.symm)
 have q3 : r3 = true := i3.2 ⟨rfl, rfl, rfl, rfl, rfl, rfl, rfl, rfl, rfl, rfl⟩
 have q4 : r4 = r1 := Bool.eq_iff_iff.2 ((i4.trans ⟨fun ⟨h0, h1, h2, h3, h4, h5, h6, h7, h8, h9⟩ => ⟨h0.symm, h1.symm, h2.symm, h3.symm, h4.symm, h5.symm, h6.symm, h7.symm, h8.symm, h9.symm⟩, fun ⟨h0, h1, h2, h3, h4, h5, h6, h7, h8, h9⟩ => ⟨h0.symm, h1.symm, h2.symm, h3.symm, h4.symm, h5.symm, h6.symm, h7.symm, h8.symm, h9.symm⟩⟩).trans i1.symm)
 subst q2 q3 q4
 refine ⟨k + 1, ?_⟩
 unfold zU.f
 rw [xU (show yj.f = some true from rfl), if_pos rfl, xU e1, xU e2, if_pos (beq_self_eq_true _), xU e3, if_pos rfl, xU e4, xU e1, beq_self_eq_true]
end Go.Proofs.YtepipnpfggnadaaGreat.Pure
namespace Go.Proofs.YtepipnpfggnadaaGreat.Q
open Go.RowKit Go.Proofs.YtepipnpfggnadaaGreatW.PrintWords Go.Proofs.YtepipnpfggnadaaGreatW.PrintLast Go.Proofs.YtepipnpfggnadaaGreatW.PrintMore
section
variable {H : Type} (enc : TypeId × Value → H) (P : Program) (W : World)
def zR {α : Type} (t : TypeId) (d : Kd α) (G : α → Prop) : Prop :=
 P.cellsOf t = d.sz ∧ ∀ (fuel : Nat) (cs : List Value) (x : DataW H × List MemPlace), DataW.trod enc P W 0 (fun _ => true) true fuel t cs = some x → (∀ n ∈ x.1.weights P t, n ≤ reachBytes) → ∃ y, d.K W y cs ∧ G y
def zT {α : Type} (ts : List TypeId) (d : Kd α) (G : α → Prop) : Prop :=
 (ts.map P.cellsOf).sum = d.sz ∧ ∀ (fuel : Nat) (cs : List Value) (xs : List (DataW H × List MemPlace)), cs.length = (ts.map P.cellsOf).sum → xs.length = ts.length →
  (∀ i t, ts[i]? = some t → DataW.trod enc P W 0 (fun _ => true) true fuel t ((cs.drop ((ts.take i).map P.cellsOf).sum).take (P.cellsOf t)) = xs[i]?) →
  (∀ n ∈ DataW.weightsEach P ts (xs.map (·.1)), n ≤ reachBytes) → ∃ y, d.K W y cs ∧ G y
variable {enc P W}
theorem zR.int {t : TypeId} {k : IntKind} (ht : P.underlying t = some (.int k)) (hc : P.cellsOf t = 1) : zR enc P W t (Kd.int k) (fun n => (Lit.int k n).wf = true) := by
 refine ⟨hc, fun fuel cs x h _ => ?_⟩
 obtain ⟨n, rfl, _, hw⟩ := DataW.trod_int ht h
 exact ⟨n, rfl, hw⟩
theorem zR.bool {t : TypeId} (ht : P.underlying t = some .bool) (hc : P.cellsOf t = 1) : zR enc P W t Kd.bool (fun _ => True) := by
 refine ⟨hc, fun fuel cs x h _ => ?_⟩
 cases fuel with
 | zero => simp [DataW.trod] at h
 | succ n =>
  unfold DataW.trod at h
  rw [ht] at h
  split at h <;> first | exact ⟨_, rfl, trivial⟩ | simp_all
theorem zR.string {t : TypeId} (ht : P.underlying t = some .string) (hc : P.cellsOf t = 1) : zR enc P W t Kd.string (fun s => s.size ≤ 140737488351232) := by
 refine ⟨hc, fun fuel cs x h hw => ?_⟩
 obtain ⟨s, rfl, rfl, _⟩ := DataW.trod_string ht h
 refine ⟨s, rfl, ?_⟩
 have := hw s.data.toList.length (by simp [DataW.weights])
 simpa [reachBytes, Array.length_toList] using this
theorem jC {e : TypeId} {ds : List (DataW H)} {d : DataW H} (h : d ∈ ds) : ∀ n ∈ d.weights P e, n ∈ DataW.weightsAll P e ds := by
 induction ds with
 | nil => cases h
 | cons d' ds ih =>
  intro n hn
  rw [DataW.weightsAll, List.mem_append]
  rcases List.mem_cons.1 h with rfl | h
  ·exact .inl hn
  ·exact .inr (ih h n hn)
open Classical in
theorem jE {α : Type} (z : α) (R : Nat → α → Prop) (n : Nat) (h : ∀ i, i < n → ∃ y, R i y) : ∃ l : List α, l.length = n ∧ ∀ i (hi : i < n) (hl : i < l.length), R i l[i] := by
 refine ⟨(List.range n).map fun i => if h' : ∃ y, R i y then Classical.choose h' else z, by simp, fun i hi hl => ?_⟩
 have he := h i hi
 simp only [List.getElem_map, List.getElem_range, dif_pos he]
 exact Classical.choose_spec he
theorem zR.slice {α : Type} (z : α) {t e : TypeId} {d : Kd α} {G : α → Prop} (bytes : Nat) (ht : P.underlying t = some (.slice e)) (hc : P.cellsOf t = 1) (hb : P.bytesOf e = bytes) (h : zR enc P W e d G) :
  zR enc P W t (Kd.slice e d) (fun xs => xs.length * bytes ≤ 140737488351232 ∧ xs.length ≤ 9223372036854775807 ∧ ∀ x ∈ xs, G x) := by
 refine ⟨hc, fun fuel cs x hx hw => ?_⟩
 rcases Go.Deep.open_slice ht hx with ⟨rfl, rfl⟩ | ⟨a, len, cap, m, n, D, Pl, rfl, _, hlc, hcm, hm, rfl, hel⟩
 ·exact ⟨[], ⟨none, 0, rfl, Nat.le_refl _, Kd.C_nil d W⟩, by simp, by simp, fun x hx => by cases hx⟩
 ·have hlm : len ≤ m := by rw [hm]; split <;> omega
  have hwt : DataW.weights P t (.slice ((List.range len).map D) ((List.range (m - len)).map fun j => D (len + j))) =
    (((List.range len).map D).length + ((List.range (m - len)).map fun j => D (len + j)).length) * P.bytesOf e :: (DataW.weightsAll P e ((List.range len).map D) ++ DataW.weightsAll P e ((List.range (m - len)).map fun j => D (len + j))) := by
   rw [DataW.weights]
   simp only [ht]
  have hel' : ∀ i, i < len → ∃ y, (∃ cs', W.cells? 0 (a.add (i * P.cellsOf e)) (P.cellsOf e) = some cs' ∧ d.K W y cs') ∧ G y := by
   intro i hi
   obtain ⟨cs', h1, h2⟩ := hel i (by omega)
   obtain ⟨y, hy, hg⟩ := h.2 n cs' _ h2 (fun n hn => hw n (by
    rw [hwt]
    exact List.mem_cons_of_mem _ (List.mem_append_left _ (jC (List.mem_map.2 ⟨i, List.mem_range.2 hi, rfl⟩) n hn))))
   exact ⟨y, ⟨cs', h1, hy⟩, hg⟩
  obtain ⟨l, hll, hl⟩ := jE z _ len hel'
  have hb1 := hw _ (by rw [hwt]; exact List.mem_cons_self)
  have hle : len * bytes ≤ 140737488351232 := by
   simp only [List.length_map, List.length_range, hb, reachBytes] at hb1
   exact Nat.le_trans (Nat.mul_le_mul_right _ (by omega)) hb1
  have hmx : len ≤ 9223372036854775807 := by
   simp only [maxLen] at hcm
   omega
  refine ⟨l, ⟨some a, cap, by rw [hll], by omega, by rw [hll], by omega, fun _ => ⟨a, rfl, fun j p hj => ?_⟩⟩, by rw [hll]; exact hle, by omega, fun x hx => ?_⟩
  ·obtain ⟨hjl, rfl⟩ := List.getElem?_eq_some_iff.1 hj
   obtain ⟨⟨cs', h1, hK⟩, _⟩ := hl j (by omega) hjl
   obtain ⟨_, hcl, hcell⟩ := World.cells?_some h1
   refine ⟨cs', by rw [hcl, h.1], hK, fun i u hu => ?_⟩
   have hi : i < P.cellsOf e := by
    have := (List.getElem?_eq_some_iff.1 hu).1
    omega
   have := hcell i hi
   rw [hu, vS, h.1] at this
   exact this
  ·obtain ⟨j, hj, rfl⟩ := List.getElem_of_mem hx
   exact (hl j (by omega) hj).2
theorem zT.one {α : Type} {t : TypeId} {d : Kd α} {G : α → Prop} (h : zR enc P W t d G) : zT enc P W [t] d G := by
 refine ⟨by simp [h.1], fun fuel cs xs hl hx hr hw => ?_⟩
 have hr0 := hr 0 t rfl
 simp only [List.take_zero, List.map_nil, List.sum_nil, List.drop_zero] at hr0
 have hc : cs.length = P.cellsOf t := by simpa using hl
 rw [List.take_of_length_le (by omega)] at hr0
 match xs, hx with
 | [x], _ =>
  exact h.2 fuel cs x hr0 (fun n hn => hw n (by simp [DataW.weightsEach, hn]))
theorem zT.cons {α β : Type} {t : TypeId} {ts : List TypeId} {d : Kd α} {d' : Kd β} {G : α → Prop} {G' : β → Prop} (h : zR enc P W t d G) (h' : zT enc P W ts d' G') :
  zT enc P W (t :: ts) (Kd.pair d d') (fun y => G y.1 ∧ G' y.2) := by
 refine ⟨by simp [Kd.pair, h.1, h'.1], fun fuel cs xs hl hx hr hw => ?_⟩
 match xs, hx with
 | x :: xs, hx =>
  have hr0 := hr 0 t rfl
  simp only [List.take_zero, List.map_nil, List.sum_nil, List.drop_zero] at hr0
  obtain ⟨y, hy, hg⟩ := h.2 fuel _ x hr0 (fun n hn => hw n (by simp [DataW.weightsEach, hn]))
  have hl2 : (cs.drop (P.cellsOf t)).length = (ts.map P.cellsOf).sum := by
   rw [List.length_drop, hl, List.map_cons, List.sum_cons]
   omega
  obtain ⟨y', hy', hg'⟩ := h'.2 fuel (cs.drop (P.cellsOf t)) xs hl2 (by simpa using hx) (fun i t' ht' => by
   have := hr (i + 1) t' (by simpa using ht')
   simp only [List.take_succ_cons, List.map_cons, List.sum_cons, List.getElem?_cons_succ] at this
   rw [List.drop_drop]
   exact this) (fun n hn => hw n (by simp only [List.map_cons, DataW.weightsEach, List.mem_append]; exact .inr hn))
  exact ⟨(y, y'), ⟨_, _, (List.take_append_drop (P.cellsOf t) cs).symm, hy, hy'⟩, hg, hg'⟩
theorem zR.struct {α β : Type} {t : TypeId} {fs : Array Field} (ts : List TypeId) {d : Kd α} {G : α → Prop} (f : β → α) (g : α → β) (hfg : ∀ a, f (g a) = a) (ht : P.underlying t = some (.struct fs)) (hts : fs.toList.map (·.type) = ts)
  (hoff0 : fs.toList.map (·.offset) = (List.range fs.size).map fun i => ((ts.take i).map P.cellsOf).sum) (hc : P.cellsOf t = (ts.map P.cellsOf).sum) (h : zT enc P W ts d G) : zR enc P W t (Kd.iso d f) (fun y => G (f y)) := by
 have hoff : ∀ i fd, fs[i]? = some fd → fd.offset = ((ts.take i).map P.cellsOf).sum := by
  intro i fd hi
  have h1 : (fs.toList.map (·.offset))[i]? = some fd.offset := by rw [List.getElem?_map, Array.getElem?_toList, hi]; rfl
  have hlt : i < fs.size := (Array.getElem?_eq_some_iff.1 hi).1
  rw [hoff0, List.getElem?_map, List.getElem?_range hlt] at h1
  simpa using h1.symm
 refine ⟨hc.trans h.1, fun fuel cs x hx hw => ?_⟩
 obtain ⟨xs, n, rfl, rfl, hcl, hxl, hfd⟩ := DataW.trod_struct ht hx
 have hwt : DataW.weights P t (.agg (xs.map (·.1)) : DataW H) = DataW.weightsEach P ts (xs.map (·.1)) := by
  rw [DataW.weights]
  simp only [ht, hts]
 obtain ⟨y, hy, hg⟩ := h.2 n cs xs (hcl.trans hc) (by rw [hxl, ← hts]; simp) (fun i t' ht' => by
  rw [← hts, List.getElem?_map, Option.map_eq_some_iff] at ht'
  obtain ⟨fd, hfi, rfl⟩ := ht'
  rw [Array.getElem?_toList] at hfi
  rw [← hoff i fd hfi]
  exact hfd i fd hfi) (fun n hn => hw n (by rw [hwt]; exact hn))
 exact ⟨g y, by show d.K W (f (g y)) cs; rw [hfg]; exact hy, by show G (f (g y)); rw [hfg]; exact hg⟩
theorem qx {ts : List TypeId} : ∀ {ds : List (DataW H)} {j : Nat} {t : TypeId} {d : DataW H}, ts[j]? = some t → ds[j]? = some d → ∀ n ∈ d.weights P t, n ∈ DataW.weightsEach P ts ds := by
 induction ts with
 | nil => intro ds j t d h; simp at h
 | cons t' ts ih =>
  intro ds j t d h h' n hn
  cases ds with
  | nil => simp at h'
  | cons d' ds =>
   rw [DataW.weightsEach, List.mem_append]
   cases j with
   | zero =>
    simp only [List.getElem?_cons_zero, Option.some.injEq] at h h'
    subst h h'
    exact .inl hn
   | succ j => exact .inr (ih (by simpa using h) (by simpa using h') n hn)
end
end Go.Proofs.YtepipnpfggnadaaGreat.Q
