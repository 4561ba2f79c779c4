/- Texts of this session laid together (shrink.py): what the claim's law rests on. -/
import Derived.Below
import Derived.Deep.Draws
import Derived.Deep.AppendLies
import Derived.Maps.AppendAt
import Derived.OwnWalk
import Derived.Laws.BytesArg
import Derived.Laws.MakeOwn
import Derived.Laws.OwnMore
import Derived.Deep.OwnRows
import Derived.Tactics
import Derived.Lib.ConvBytes
import Derived.Laws.Slices
import Derived.WalkKit
import Derived.KernelRfl
import Derived.RowKit3
import Derived.Deep.LoopGhost
import Derived.Deep.QuietTactic
import Derived.BigQuiet
import Derived.WideLaws
import Derived.Deep.DeepCutAuto
import Derived.Deep.CutBlock
import Derived.Deep.RegionHeld3
import Derived.Laws.Rows
import Derived.Lib.AppendStr
import Derived.ArgAppend
import Derived.Laws.IdiomCopy
import Derived.RowKit
import Derived.OrdersHeld
import Derived.Laws.BitsLemmas
import Derived.Laws.StructEq
import Derived.Test.YtepipnpfggnadaaGreatProg
import Derived.WalkMore
import Derived.Lib.Strings
import Derived.Test.YtepipnpfggnadaaGreatTFramesBackd
set_option linter.unusedVariables false
set_option linter.unusedSimpArgs false
set_option maxRecDepth 100000
set_option maxHeartbeats 8000000
open List renaming setIfInBounds_toArray → zdF
open List renaming set_cons_zero → zdG
open List renaming set_cons_succ → zdH
open List renaming map_toArray → zdI
open Option renaming bind_eq_some_iff → zdJ
open Go.World renaming block_lt_of_cell? → zdK
open Bool renaming eq_false_iff → zdL
open List renaming length_append → zdM
namespace Go.Proofs.YtepipnpfggnadaaGreat.Q
open Go.RowKit Go.Proofs.YtepipnpfggnadaaGreatW.PrintWords Go.Proofs.YtepipnpfggnadaaGreatW.PrintLast Go.Proofs.YtepipnpfggnadaaGreatW.PrintMore
attribute [local go_sem] jG jE vD vr ja je jK jJ
def qe.f (k : Nat)  (a1_0 : Int) (a1_1 : Int) (a1_2 : Int) (a1_3 : Int) (a1_4 : Int) (l1_5 : List ByteArray) (l1_6 : List (S52)) (l1_7 : List (S46)) (l1_8 : List (S86)) (l1_9 : List (S77)) : Option (ByteArray) := (y8.f k l1_8).bind fun bt417 => ((yz.f k l1_9).bind fun bt419 => ((zx.f k (([a1_4] : List Int))).bind fun t424 => (if t424.size + bt417.1.size ≤ 9223372036854775807 then (if (t424 ++ bt417.1).size + bt419.1.size ≤ 9223372036854775807 then (some ((t424 ++ bt417.1) ++ bt419.1)) else (none)) else (none))))
theorem qe.calls (k : Nat)  (a1_0 : Int) (a1_1 : Int) (a1_2 : Int) (a1_3 : Int) (a1_4 : Int) (A1_5 : Option Addr) (c1_5 : Nat) (l1_5 : List ByteArray) (A1_6 : Option Addr) (c1_6 : Nat) (l1_6 : List (S52)) (A1_7 : Option Addr) (c1_7 : Nat) (l1_7 : List (S46)) (A1_8 : Option Addr) (c1_8 : Nat) (l1_8 : List (S86)) (A1_9 : Option Addr) (c1_9 : Nat) (l1_9 : List (S77)) (r : ByteArray) (w : World) (hr1_5 : Kd.C Kd.string w A1_5 l1_5.length l1_5) (hc1_5 : l1_5.length ≤ c1_5) (hr1_6 : Kd.C k52 w A1_6 l1_6.length l1_6) (hc1_6 : l1_6.length ≤ c1_6) (hr1_7 : Kd.C k46 w A1_7 l1_7.length l1_7) (hc1_7 : l1_7.length ≤ c1_7) (hr1_8 : Kd.C k86 w A1_8 l1_8.length l1_8) (hc1_8 : l1_8.length ≤ c1_8) (hr1_9 : Kd.C k77 w A1_9 l1_9.length l1_9) (hc1_9 : l1_9.length ≤ c1_9) (h : qe.f k a1_0 a1_1 a1_2 a1_3 a1_4 l1_5 l1_6 l1_7 l1_8 l1_9 = some r) :
  Calls Tryz.prog 62 #[.agg #[], .agg #[.int .i64 a1_0, .int .i64 a1_1, .int .i64 a1_2, .int .i64 a1_3, .int .i64 a1_4, .slice A1_5 l1_5.length c1_5, .slice A1_6 l1_6.length c1_6, .slice A1_7 l1_7.length c1_7, .slice A1_8 l1_8.length c1_8, .slice A1_9 l1_9.length c1_9]] w fun e w' => e = .returned (.string r) ∧ Below w.heap.size w w' := by
 have hu95 := Tryz.underlying95
 have hu28 := Tryz.underlying28
 have HR1_5 := za.mk hr1_5
 have HC1_5 := za.mk hc1_5
 clear hr1_5 hc1_5
 have HR1_6 := za.mk hr1_6
 have HC1_6 := za.mk hc1_6
 clear hr1_6 hc1_6
 have HR1_7 := za.mk hr1_7
 have HC1_7 := za.mk hc1_7
 clear hr1_7 hc1_7
 have HR1_8 := za.mk hr1_8
 have HC1_8 := za.mk hc1_8
 clear hr1_8 hc1_8
 have HR1_9 := za.mk hr1_9
 have HC1_9 := za.mk hc1_9
 clear hr1_9 hc1_9
 have HB := za.mk (Below.refl w.heap.size w)
 have H : ((y8.f k l1_8).bind fun bt417 => ((yz.f k l1_9).bind fun bt419 => ((zx.f k (([a1_4] : List Int))).bind fun t424 => (if t424.size + bt417.1.size ≤ 9223372036854775807 then (if (t424 ++ bt417.1).size + bt419.1.size ≤ 9223372036854775807 then (some ((t424 ++ bt417.1) ++ bt419.1)) else (none)) else (none))))) = some r := h
 clear h
 replace H := zdJ.mp H
 obtain ⟨⟨t417, t418⟩, A30, H⟩ := H
 replace H : ((yz.f k l1_9).bind fun bt419 => ((zx.f k (([a1_4] : List Int))).bind fun t424 => (if t424.size + t417.size ≤ 9223372036854775807 then (if (t424 ++ t417).size + bt419.1.size ≤ 9223372036854775807 then (some ((t424 ++ t417) ++ bt419.1)) else (none)) else (none)))) = some r := H
 have A3 := za.mk A30
 clear A30
 replace H := zdJ.mp H
 obtain ⟨⟨t419, t420⟩, A40, H⟩ := H
 replace H : ((zx.f k (([a1_4] : List Int))).bind fun t424 => (if t424.size + t417.size ≤ 9223372036854775807 then (if (t424 ++ t417).size + t419.size ≤ 9223372036854775807 then (some ((t424 ++ t417) ++ t419)) else (none)) else (none))) = some r := H
 have A4 := za.mk A40
 clear A40
 obtain ⟨y421, hy421⟩ : ∃ y_ : List Int, y_ = (([a1_4] : List Int)) := ⟨_, rfl⟩
 replace H : ((zx.f k y421).bind fun t424 => (if t424.size + t417.size ≤ 9223372036854775807 then (if (t424 ++ t417).size + t419.size ≤ 9223372036854775807 then (some ((t424 ++ t417) ++ t419)) else (none)) else (none))) = some r := by first | (rw [hy421]; with_reducible exact H) | (have H2_ := (Option.bind_some _ _).symm.trans H; rw [hy421]; with_reducible exact H2_) | (have H2_ := (Option.bind_some _ _).symm.trans H; with_reducible exact H2_) | with_reducible exact H | (rw [hy421]; exact H) | exact H
 have Ny421 := za.mk hy421
 clear hy421
 replace H := zdJ.mp H
 obtain ⟨t424, A50, H⟩ := H
 replace H : (if t424.size + t417.size ≤ 9223372036854775807 then (if (t424 ++ t417).size + t419.size ≤ 9223372036854775807 then (some ((t424 ++ t417) ++ t419)) else (none)) else (none)) = some r := H
 have A5 := za.mk A50
 clear A50
 by_cases c6 : t424.size + t417.size ≤ 9223372036854775807
 ·rw [if_pos c6] at H
  have c6b0 := eq_true c6
  have c6b1 : decide (t424.size + t417.size ≤ 9223372036854775807) = true := decide_eq_true c6
  try have c6b2 : (9223372036854775807 < t424.size + t417.size) = False := eq_false (Nat.not_lt.2 c6)
  by_cases c7 : (t424 ++ t417).size + t419.size ≤ 9223372036854775807
  ·rw [if_pos c7] at H
   have c7b0 := eq_true c7
   have c7b1 : decide ((t424 ++ t417).size + t419.size ≤ 9223372036854775807) = true := decide_eq_true c7
   try have c7b2 : (9223372036854775807 < (t424 ++ t417).size + t419.size) = False := eq_false (Nat.not_lt.2 c7)
   try (have c7b3 := c7b2; simp only [ByteArray.size_append] at c7b3)
   obtain rfl := Option.some.inj H
   go_enter Tryz.func62, Tryz.ntmps62
   go_wp2_with (first | ((with_reducible refine zJ (N := 2) rfl ?_); refine yg ?hg (N := 2) ?hd (cs := #[]) (t := 95) ?hr ?_; (case hd => rfl); (case hg => rfl); (case hr => first | (go_simp; done) | (go_simp; rfl)); intro gb415 hg w8 hbox hb; have n0_ := za.mk (zp (by repeat (first | (with_reducible first | exact HB.out | apply zc | apply zb | apply zd) | exact HB.out)) hb); have n1_ := za.mk (hbox); have n2_ := za.mk ((by rw [hg]; exact (zG (by repeat (first | (with_reducible first | exact HB.out | apply zc | apply zb | apply zd) | exact HB.out))) : w.heap.size ≤ gb415)); have n3_ := za.mk ((by rw [hg]; exact (zG (by repeat (first | (with_reducible first | exact HB.out | apply zc | apply zb | apply zd) | exact HB.out))) : w.heap.size ≤ gb415)); clear HB; have HB := n0_; have BK415 := n1_; have GW415 := n2_; have GE415 := n3_; clear n0_ n1_ n2_ n3_; clear hb hbox hg) | ((with_reducible refine zJ (N := 3) rfl ?_); refine yg ?hg (N := 3) ?hd (cs := #[.int .i64 a1_0, .int .i64 a1_1, .int .i64 a1_2, .int .i64 a1_3, .int .i64 a1_4, .slice A1_5 l1_5.length c1_5, .slice A1_6 l1_6.length c1_6, .slice A1_7 l1_7.length c1_7, .slice A1_8 l1_8.length c1_8, .slice A1_9 l1_9.length c1_9]) (t := 28) ?hr ?_; (case hd => rfl); (case hg => rfl); (case hr => first | (go_simp; done) | (go_simp; rfl)); intro gb416 hg w9 hbox hb; have n0_ := za.mk (zP (g := gb415) (o := .cells #[] 95 (0, 0)) (by (with_reducible repeat (first | refine zH ?_ _ | refine zM ?_ | refine zI ?_ _)); exact BK415.out) hb); have n1_ := za.mk (zp (by repeat (first | (with_reducible first | exact HB.out | apply zc | apply zb | apply zd | refine zq ?_ GE415.out) | exact HB.out)) hb); have n2_ := za.mk (hbox); have n3_ := za.mk ((by rw [hg]; exact (zG (by repeat (first | (with_reducible first | exact HB.out | apply zc | apply zb | apply zd | refine zq ?_ GE415.out) | exact HB.out))) : w.heap.size ≤ gb416)); have n4_ := za.mk ((by rw [hg]; exact (zG (by repeat (first | (with_reducible first | exact HB.out | apply zc | apply zb | apply zd | refine zq ?_ GE415.out) | exact HB.out))) : w.heap.size ≤ gb416)); have n5_ := za.mk ((by rw [hg]; exact Nat.ne_of_lt (xG (g := gb415) (o := .cells #[] 95 (0, 0)) (by (with_reducible repeat (first | refine zH ?_ _ | refine zM ?_ | refine zI ?_ _)); exact BK415.out)) : gb415 ≠ gb416)); have n6_ := za.mk ((by rw [hg]; exact Nat.ne_of_gt (xG (g := gb415) (o := .cells #[] 95 (0, 0)) (by (with_reducible repeat (first | refine zH ?_ _ | refine zM ?_ | refine zI ?_ _)); exact BK415.out)) : gb416 ≠ gb415)); clear BK415; clear HB; have BK415 := n0_; have HB := n1_; have BK416 := n2_; have GW416 := n3_; have GE416 := n4_; have NB415_416 := n5_; have NB416_415 := n6_; clear n0_ n1_ n2_ n3_ n4_ n5_ n6_; clear hb hbox hg; have hnb10 := NB416_415.out; have hnc10 := NB415_416.out; have hcz11_0 : w9.cell? ⟨gb416, 0, none⟩ = some (.int .i64 a1_0) := (zk BK416.out 0).trans rfl; have hcz11_1 : w9.cell? ⟨gb416, 1, none⟩ = some (.int .i64 a1_1) := (zk BK416.out 1).trans rfl; have hcz11_2 : w9.cell? ⟨gb416, 2, none⟩ = some (.int .i64 a1_2) := (zk BK416.out 2).trans rfl; have hcz11_3 : w9.cell? ⟨gb416, 3, none⟩ = some (.int .i64 a1_3) := (zk BK416.out 3).trans rfl; have hcz11_4 : w9.cell? ⟨gb416, 4, none⟩ = some (.int .i64 a1_4) := (zk BK416.out 4).trans rfl; have hcz11_5 : w9.cell? ⟨gb416, 5, none⟩ = some (.slice A1_5 l1_5.length c1_5) := (zk BK416.out 5).trans rfl; have hcz11_6 : w9.cell? ⟨gb416, 6, none⟩ = some (.slice A1_6 l1_6.length c1_6) := (zk BK416.out 6).trans rfl; have hcz11_7 : w9.cell? ⟨gb416, 7, none⟩ = some (.slice A1_7 l1_7.length c1_7) := (zk BK416.out 7).trans rfl; have hcz11_8 : w9.cell? ⟨gb416, 8, none⟩ = some (.slice A1_8 l1_8.length c1_8) := (zk BK416.out 8).trans rfl; have hcz11_9 : w9.cell? ⟨gb416, 9, none⟩ = some (.slice A1_9 l1_9.length c1_9) := (zk BK416.out 9).trans rfl; have hfz11_0 := zl BK416.out 0; have hfz11_1 := zl BK416.out 1; have hfz11_2 := zl BK416.out 2; have hfz11_3 := zl BK416.out 3; have hfz11_4 := zl BK416.out 4; have hfz11_5 := zl BK416.out 5; have hfz11_6 := zl BK416.out 6; have hfz11_7 := zl BK416.out 7; have hfz11_8 := zl BK416.out 8; have hfz11_9 := zl BK416.out 9) | ((with_reducible refine zy (f := 105) rfl ?_); refine zU (some 12) rfl rfl Tryz.func105 (by kernel_rfl) rfl #[.slice A1_8 l1_8.length c1_8] rfl (by (try simp only [zdI, List.map_cons, List.map_nil]); first | done | rfl | (simp only [List.length_drop, List.length_take]; rfl)) ?_; (with_reducible refine (y8.calls k _ _ l1_8 t417 t418 _ ?side1 ?side2 A3.out).mono ?_); (case side1 => repeat (first | exact (Kd.C_below HR1_8.out HB.out) | (with_reducible refine Kd.C_alloc ?_ _) | (with_reducible refine Kd.C_drewN ?_ _) | (with_reducible refine Kd.C_drew ?_))); (case side2 => exact HC1_8.out); rintro e w12 ⟨rfl, hb⟩; refine ⟨_, rfl, ?_⟩; have n0_ := za.mk (zP (g := gb415) (o := .cells #[] 95 (0, 0)) (by (with_reducible repeat (first | refine zH ?_ _ | refine zM ?_ | refine zI ?_ _)); exact BK415.out) hb); have n1_ := za.mk (zP (g := gb416) (o := .cells #[.int .i64 a1_0, .int .i64 a1_1, .int .i64 a1_2, .int .i64 a1_3, .int .i64 a1_4, .slice A1_5 l1_5.length c1_5, .slice A1_6 l1_6.length c1_6, .slice A1_7 l1_7.length c1_7, .slice A1_8 l1_8.length c1_8, .slice A1_9 l1_9.length c1_9] 28 (0, 0)) (by (with_reducible repeat (first | refine zH ?_ _ | refine zM ?_ | refine zI ?_ _)); exact BK416.out) hb); have n2_ := za.mk (zp (by repeat (first | (with_reducible first | exact HB.out | apply zc | apply zb | apply zd | refine zq ?_ GE415.out | refine zq ?_ GE416.out) | exact HB.out)) hb); clear BK415; clear BK416; clear HB; have BK415 := n0_; have BK416 := n1_; have HB := n2_; clear n0_ n1_ n2_; (try clear hb); (try clear hb2); (try clear hk); (try clear hi); have hcz13_0 : w12.cell? ⟨gb416, 0, none⟩ = some (.int .i64 a1_0) := (zk BK416.out 0).trans rfl; have hcz13_1 : w12.cell? ⟨gb416, 1, none⟩ = some (.int .i64 a1_1) := (zk BK416.out 1).trans rfl; have hcz13_2 : w12.cell? ⟨gb416, 2, none⟩ = some (.int .i64 a1_2) := (zk BK416.out 2).trans rfl; have hcz13_3 : w12.cell? ⟨gb416, 3, none⟩ = some (.int .i64 a1_3) := (zk BK416.out 3).trans rfl; have hcz13_4 : w12.cell? ⟨gb416, 4, none⟩ = some (.int .i64 a1_4) := (zk BK416.out 4).trans rfl; have hcz13_5 : w12.cell? ⟨gb416, 5, none⟩ = some (.slice A1_5 l1_5.length c1_5) := (zk BK416.out 5).trans rfl; have hcz13_6 : w12.cell? ⟨gb416, 6, none⟩ = some (.slice A1_6 l1_6.length c1_6) := (zk BK416.out 6).trans rfl; have hcz13_7 : w12.cell? ⟨gb416, 7, none⟩ = some (.slice A1_7 l1_7.length c1_7) := (zk BK416.out 7).trans rfl; have hcz13_8 : w12.cell? ⟨gb416, 8, none⟩ = some (.slice A1_8 l1_8.length c1_8) := (zk BK416.out 8).trans rfl; have hcz13_9 : w12.cell? ⟨gb416, 9, none⟩ = some (.slice A1_9 l1_9.length c1_9) := (zk BK416.out 9).trans rfl; have hfz13_0 := zl BK416.out 0; have hfz13_1 := zl BK416.out 1; have hfz13_2 := zl BK416.out 2; have hfz13_3 := zl BK416.out 3; have hfz13_4 := zl BK416.out 4; have hfz13_5 := zl BK416.out 5; have hfz13_6 := zl BK416.out 6; have hfz13_7 := zl BK416.out 7; have hfz13_8 := zl BK416.out 8; have hfz13_9 := zl BK416.out 9) | ((with_reducible refine zy (f := 106) rfl ?_); refine zU (some 18) rfl rfl Tryz.func106 (by kernel_rfl) rfl #[.slice A1_9 l1_9.length c1_9] rfl (by (try simp only [zdI, List.map_cons, List.map_nil]); first | done | rfl | (simp only [List.length_drop, List.length_take]; rfl)) ?_; (with_reducible refine (yz.calls k _ _ l1_9 t419 t420 _ ?side1 ?side2 A4.out).mono ?_); (case side1 => repeat (first | exact (Kd.C_below HR1_9.out HB.out) | (with_reducible refine Kd.C_alloc ?_ _) | (with_reducible refine Kd.C_drewN ?_ _) | (with_reducible refine Kd.C_drew ?_))); (case side2 => exact HC1_9.out); rintro e w14 ⟨rfl, hb⟩; refine ⟨_, rfl, ?_⟩; have n0_ := za.mk (zP (g := gb415) (o := .cells #[] 95 (0, 0)) (by (with_reducible repeat (first | refine zH ?_ _ | refine zM ?_ | refine zI ?_ _)); exact BK415.out) hb); have n1_ := za.mk (zP (g := gb416) (o := .cells #[.int .i64 a1_0, .int .i64 a1_1, .int .i64 a1_2, .int .i64 a1_3, .int .i64 a1_4, .slice A1_5 l1_5.length c1_5, .slice A1_6 l1_6.length c1_6, .slice A1_7 l1_7.length c1_7, .slice A1_8 l1_8.length c1_8, .slice A1_9 l1_9.length c1_9] 28 (0, 0)) (by (with_reducible repeat (first | refine zH ?_ _ | refine zM ?_ | refine zI ?_ _)); exact BK416.out) hb); have n2_ := za.mk (zp (by repeat (first | (with_reducible first | exact HB.out | apply zc | apply zb | apply zd | refine zq ?_ GE415.out | refine zq ?_ GE416.out) | exact HB.out)) hb); clear BK415; clear BK416; clear HB; have BK415 := n0_; have BK416 := n1_; have HB := n2_; clear n0_ n1_ n2_; (try clear hb); (try clear hb2); (try clear hk); (try clear hi); have hcz15_0 : w14.cell? ⟨gb416, 0, none⟩ = some (.int .i64 a1_0) := (zk BK416.out 0).trans rfl; have hcz15_1 : w14.cell? ⟨gb416, 1, none⟩ = some (.int .i64 a1_1) := (zk BK416.out 1).trans rfl; have hcz15_2 : w14.cell? ⟨gb416, 2, none⟩ = some (.int .i64 a1_2) := (zk BK416.out 2).trans rfl; have hcz15_3 : w14.cell? ⟨gb416, 3, none⟩ = some (.int .i64 a1_3) := (zk BK416.out 3).trans rfl; have hcz15_4 : w14.cell? ⟨gb416, 4, none⟩ = some (.int .i64 a1_4) := (zk BK416.out 4).trans rfl; have hcz15_5 : w14.cell? ⟨gb416, 5, none⟩ = some (.slice A1_5 l1_5.length c1_5) := (zk BK416.out 5).trans rfl; have hcz15_6 : w14.cell? ⟨gb416, 6, none⟩ = some (.slice A1_6 l1_6.length c1_6) := (zk BK416.out 6).trans rfl; have hcz15_7 : w14.cell? ⟨gb416, 7, none⟩ = some (.slice A1_7 l1_7.length c1_7) := (zk BK416.out 7).trans rfl; have hcz15_8 : w14.cell? ⟨gb416, 8, none⟩ = some (.slice A1_8 l1_8.length c1_8) := (zk BK416.out 8).trans rfl; have hcz15_9 : w14.cell? ⟨gb416, 9, none⟩ = some (.slice A1_9 l1_9.length c1_9) := (zk BK416.out 9).trans rfl; have hfz15_0 := zl BK416.out 0; have hfz15_1 := zl BK416.out 1; have hfz15_2 := zl BK416.out 2; have hfz15_3 := zl BK416.out 3; have hfz15_4 := zl BK416.out 4; have hfz15_5 := zl BK416.out 5; have hfz15_6 := zl BK416.out 6; have hfz15_7 := zl BK416.out 7; have hfz15_8 := zl BK416.out 8; have hfz15_9 := zl BK416.out 9) | ((with_reducible refine zJ (N := 23) rfl ?_); refine Kd.R_lit (Kd.int .i64) _ 3 ?hg (N := 23) ?hd (xs := ([a1_4] : List Int)) (inner := [.int .i64 a1_4]) (ok := fun _ => True) (okp := fun _ => True) ?hr ?hp (fun _ hk => hk) trivial (Below.refl _ _) (Nat.le_refl _) (by simp) ?_; (case hd => rfl); (case hg => rfl); (case hr => first | (go_simp; done) | (go_simp; rfl)); (case hp => exact (zS.one (show Kd.M (Kd.int .i64) _ _ _ a1_4 [.int .i64 a1_4] from rfl) (zS.none _ _))); intro v422 w16 ho17 hb hg_ hnew_; clear hg_ hnew_; (first | rw [← Ny421.out] at ho17 | (simp only [Int.reduceToNat] at ho17; rw [← Ny421.out] at ho17)); have n0_ := za.mk (Kd.R_lower ho17 (zG (by repeat (first | (with_reducible first | exact HB.out | apply zc | apply zb | apply zd | refine zq ?_ GE415.out | refine zq ?_ GE416.out) | exact HB.out)))); have n1_ := za.mk (zP (g := gb415) (o := .cells #[] 95 (0, 0)) (by (with_reducible repeat (first | refine zH ?_ _ | refine zM ?_ | refine zI ?_ _)); exact BK415.out) hb); have n2_ := za.mk (zP (g := gb416) (o := .cells #[.int .i64 a1_0, .int .i64 a1_1, .int .i64 a1_2, .int .i64 a1_3, .int .i64 a1_4, .slice A1_5 l1_5.length c1_5, .slice A1_6 l1_6.length c1_6, .slice A1_7 l1_7.length c1_7, .slice A1_8 l1_8.length c1_8, .slice A1_9 l1_9.length c1_9] 28 (0, 0)) (by (with_reducible repeat (first | refine zH ?_ _ | refine zM ?_ | refine zI ?_ _)); exact BK416.out) hb); have n3_ := za.mk (zp (by repeat (first | (with_reducible first | exact HB.out | apply zc | apply zb | apply zd | refine zq ?_ GE415.out | refine zq ?_ GE416.out) | exact HB.out)) hb); clear BK415; clear BK416; clear HB; have HO423 := n0_; have BK415 := n1_; have BK416 := n2_; have HB := n3_; clear n0_ n1_ n2_ n3_; clear hb ho17; obtain ⟨Ao18, co18, eo18⟩ := Kd.R_slice HO423.out; subst eo18) | ((with_reducible refine zy (f := 18) rfl ?_); refine zU (some 24) rfl rfl Tryz.func18 (by kernel_rfl) rfl #[.slice Ao18 y421.length co18] rfl (by (try simp only [zdI, List.map_cons, List.map_nil]); first | done | rfl | (simp only [List.length_drop, List.length_take]; rfl)) ?_; (with_reducible refine (zx.calls k _ _ y421 t424 _ ?side1 ?side2 A5.out).mono ?_); (case side1 => repeat (first | exact (Kd.R_reads' HO423.out).2.2 | (with_reducible refine Kd.C_alloc ?_ _) | (with_reducible refine Kd.C_drewN ?_ _) | (with_reducible refine Kd.C_drew ?_))); (case side2 => exact (Kd.R_reads' HO423.out).2.1); rintro e w19 ⟨rfl, hb⟩; refine ⟨_, rfl, ?_⟩; have n0_ := za.mk (Kd.R_below (by (with_reducible repeat (first | apply Kd.R_alloc | apply Kd.R_drewN | apply Kd.R_drew)); exact HO423.out) hb); have n1_ := za.mk (zP (g := gb415) (o := .cells #[] 95 (0, 0)) (by (with_reducible repeat (first | refine zH ?_ _ | refine zM ?_ | refine zI ?_ _)); exact BK415.out) hb); have n2_ := za.mk (zP (g := gb416) (o := .cells #[.int .i64 a1_0, .int .i64 a1_1, .int .i64 a1_2, .int .i64 a1_3, .int .i64 a1_4, .slice A1_5 l1_5.length c1_5, .slice A1_6 l1_6.length c1_6, .slice A1_7 l1_7.length c1_7, .slice A1_8 l1_8.length c1_8, .slice A1_9 l1_9.length c1_9] 28 (0, 0)) (by (with_reducible repeat (first | refine zH ?_ _ | refine zM ?_ | refine zI ?_ _)); exact BK416.out) hb); have n3_ := za.mk (zp (by repeat (first | (with_reducible first | exact HB.out | apply zc | apply zb | apply zd | refine zq ?_ GE415.out | refine zq ?_ GE416.out) | exact HB.out)) hb); clear HO423; clear BK415; clear BK416; clear HB; have HO423 := n0_; have BK415 := n1_; have BK416 := n2_; have HB := n3_; clear n0_ n1_ n2_ n3_; (try clear hb); (try clear hb2); (try clear hk); (try clear hi)))
   go_ret
   exact ⟨by first | rfl | (simp [zn, zo] <;> rfl) | (simp [*, zn, zo] <;> rfl), by repeat (first | (with_reducible first | exact HB.out | apply zc | apply zb | apply zd | refine zq ?_ GE415.out | refine zq ?_ GE416.out) | exact HB.out)⟩
  ·rw [if_neg c7] at H
   exact absurd H (by simp)
 ·rw [if_neg c6] at H
  exact absurd H (by simp)
def qm.f (k : Nat) (a0 a1 a2 a3 a4 : Int) (l5 : List ByteArray) (l6 : List S52) (l7 : List S46) (l8 : List S86) (l9 : List S77) : Option ByteArray := if a0 = 1 then xK.f k a0 a1 a2 a3 a4 l5 l6 l7 l8 l9 else if a0 = 2 then xC.f k a0 a1 a2 a3 a4 l5 l6 l7 l8 l9 else if a0 = 3 then qd.f k a0 a1 a2 a3 a4 l5 l6 l7 l8 l9 else if a0 = 4 then xm.f k a0 a1 a2 a3 a4 l5 l6 l7 l8 l9 else qe.f k a0 a1 a2 a3 a4 l5 l6 l7 l8 l9
theorem qm.calls (k : Nat) (a0 a1 a2 a3 a4 : Int) (A5 : Option Addr) (c5 : Nat) (l5 : List ByteArray) (A6 : Option Addr) (c6 : Nat) (l6 : List S52) (A7 : Option Addr) (c7 : Nat) (l7 : List S46) (A8 : Option Addr) (c8 : Nat) (l8 : List S86) (A9 : Option Addr) (c9 : Nat) (l9 : List S77) (r : ByteArray) (w : World) (hr5 : Kd.C Kd.string w A5 l5.length l5) (hc5 : l5.length ≤ c5) (hr6 : Kd.C k52 w A6 l6.length l6) (hc6 : l6.length ≤ c6) (hr7 : Kd.C k46 w A7 l7.length l7) (hc7 : l7.length ≤ c7) (hr8 : Kd.C k86 w A8 l8.length l8) (hc8 : l8.length ≤ c8) (hr9 : Kd.C k77 w A9 l9.length l9) (hc9 : l9.length ≤ c9) (h : qm.f k a0 a1 a2 a3 a4 l5 l6 l7 l8 l9 = some r) :
  Calls Tryz.prog 19 #[.agg #[.int .i64 a0, .int .i64 a1, .int .i64 a2, .int .i64 a3, .int .i64 a4, .slice A5 l5.length c5, .slice A6 l6.length c6, .slice A7 l7.length c7, .slice A8 l8.length c8, .slice A9 l9.length c9]] w fun e w' => e = .returned (.string r) ∧ Below w.heap.size w w' := by
 have HB := za.mk (Below.refl w.heap.size w)
 have HR5 := za.mk hr5
 have HL5 := za.mk hc5
 have HR6 := za.mk hr6
 have HL6 := za.mk hc6
 have HR7 := za.mk hr7
 have HL7 := za.mk hc7
 have HR8 := za.mk hr8
 have HL8 := za.mk hc8
 have HR9 := za.mk hr9
 have HL9 := za.mk hc9
 clear hr5 hc5 hr6 hc6 hr7 hc7 hr8 hc8 hr9 hc9
 unfold qm.f at h
 by_cases t1 : a0 = 1
 case pos =>
  subst t1
  replace h : xK.f k 1 a1 a2 a3 a4 l5 l6 l7 l8 l9 = some r := h
  have HX := za.mk h
  clear h
  go_enter Tryz.func19, Tryz.ntmps19
  go_wp2_with (first | ((with_reducible refine zJ (N := 1) rfl ?_); refine yg ?hg (N := 1) ?hd (cs := #[.int .i64 1, .int .i64 a1, .int .i64 a2, .int .i64 a3, .int .i64 a4, .slice A5 l5.length c5, .slice A6 l6.length c6, .slice A7 l7.length c7, .slice A8 l8.length c8, .slice A9 l9.length c9]) (t := 28) ?hr ?_; (case hd => rfl); (case hg => rfl); (case hr => first | (go_simp; done) | (go_simp; rfl)); intro g_f hg_ w1_ hbox_ hb_; have n0_ := za.mk (zp HB.out hb_); have n1_ := za.mk ((by rw [hg_]; exact HB.out.size : w.heap.size ≤ g_f)); have n2_ := za.mk (hbox_); (try clear HB); (try clear GE_f); (try clear BK_f); have HB := n0_; have GE_f := n1_; have BK_f := n2_; clear n0_ n1_ n2_; clear hbox_ hb_ hg_; obtain ⟨hc_f_0, hc_f_1, hc_f_2, hc_f_3, hc_f_4, hc_f_5, hc_f_6, hc_f_7, hc_f_8, hc_f_9, hf_f_0, hf_f_1, hf_f_2, hf_f_3, hf_f_4, hf_f_5, hf_f_6, hf_f_7, hf_f_8, hf_f_9⟩ := qD BK_f.out) | (go_at_call 58; (with_reducible refine (xK.calls k 1 a1 a2 a3 a4 A5 c5 l5 A6 c6 l6 A7 c7 l7 A8 c8 l8 A9 c9 l9 r _ ?s5 HL5.out ?s6 HL6.out ?s7 HL7.out ?s8 HL8.out ?s9 HL9.out HX.out).mono ?_); (case s5 => exact Kd.C_below HR5.out HB.out); (case s6 => exact Kd.C_below HR6.out HB.out); (case s7 => exact Kd.C_below HR7.out HB.out); (case s8 => exact Kd.C_below HR8.out HB.out); (case s9 => exact Kd.C_below HR9.out HB.out); rintro e_ w2_ ⟨rfl, hb_⟩; have n0_ := za.mk (zP BK_f.out hb_); have n1_ := za.mk (zp HB.out hb_); (try clear BK_f); (try clear HB); have BK_f := n0_; have HB := n1_; clear n0_ n1_; (try clear hc_f_0 hc_f_1 hc_f_2 hc_f_3 hc_f_4 hc_f_5 hc_f_6 hc_f_7 hc_f_8 hc_f_9 hf_f_0 hf_f_1 hf_f_2 hf_f_3 hf_f_4 hf_f_5 hf_f_6 hf_f_7 hf_f_8 hf_f_9); (try clear hb_); obtain ⟨hc_f_0, hc_f_1, hc_f_2, hc_f_3, hc_f_4, hc_f_5, hc_f_6, hc_f_7, hc_f_8, hc_f_9, hf_f_0, hf_f_1, hf_f_2, hf_f_3, hf_f_4, hf_f_5, hf_f_6, hf_f_7, hf_f_8, hf_f_9⟩ := qD BK_f.out))
  (try simp only [Exit.inBlock, Exit.then])
  go_ret
  exact ⟨rfl, HB.out⟩
 rw [if_neg t1] at h
 by_cases t2 : a0 = 2
 case pos =>
  subst t2
  replace h : xC.f k 2 a1 a2 a3 a4 l5 l6 l7 l8 l9 = some r := h
  have HX := za.mk h
  clear h
  go_enter Tryz.func19, Tryz.ntmps19
  go_wp2_with (first | ((with_reducible refine zJ (N := 1) rfl ?_); refine yg ?hg (N := 1) ?hd (cs := #[.int .i64 2, .int .i64 a1, .int .i64 a2, .int .i64 a3, .int .i64 a4, .slice A5 l5.length c5, .slice A6 l6.length c6, .slice A7 l7.length c7, .slice A8 l8.length c8, .slice A9 l9.length c9]) (t := 28) ?hr ?_; (case hd => rfl); (case hg => rfl); (case hr => first | (go_simp; done) | (go_simp; rfl)); intro g_f hg_ w1_ hbox_ hb_; have n0_ := za.mk (zp HB.out hb_); have n1_ := za.mk ((by rw [hg_]; exact HB.out.size : w.heap.size ≤ g_f)); have n2_ := za.mk (hbox_); (try clear HB); (try clear GE_f); (try clear BK_f); have HB := n0_; have GE_f := n1_; have BK_f := n2_; clear n0_ n1_ n2_; clear hbox_ hb_ hg_; obtain ⟨hc_f_0, hc_f_1, hc_f_2, hc_f_3, hc_f_4, hc_f_5, hc_f_6, hc_f_7, hc_f_8, hc_f_9, hf_f_0, hf_f_1, hf_f_2, hf_f_3, hf_f_4, hf_f_5, hf_f_6, hf_f_7, hf_f_8, hf_f_9⟩ := qD BK_f.out) | (go_at_call 59; (with_reducible refine (xC.calls k 2 a1 a2 a3 a4 A5 c5 l5 A6 c6 l6 A7 c7 l7 A8 c8 l8 A9 c9 l9 r _ ?s5 HL5.out ?s6 HL6.out ?s7 HL7.out ?s8 HL8.out ?s9 HL9.out HX.out).mono ?_); (case s5 => exact Kd.C_below HR5.out HB.out); (case s6 => exact Kd.C_below HR6.out HB.out); (case s7 => exact Kd.C_below HR7.out HB.out); (case s8 => exact Kd.C_below HR8.out HB.out); (case s9 => exact Kd.C_below HR9.out HB.out); rintro e_ w2_ ⟨rfl, hb_⟩; have n0_ := za.mk (zP BK_f.out hb_); have n1_ := za.mk (zp HB.out hb_); (try clear BK_f); (try clear HB); have BK_f := n0_; have HB := n1_; clear n0_ n1_; (try clear hc_f_0 hc_f_1 hc_f_2 hc_f_3 hc_f_4 hc_f_5 hc_f_6 hc_f_7 hc_f_8 hc_f_9 hf_f_0 hf_f_1 hf_f_2 hf_f_3 hf_f_4 hf_f_5 hf_f_6 hf_f_7 hf_f_8 hf_f_9); (try clear hb_); obtain ⟨hc_f_0, hc_f_1, hc_f_2, hc_f_3, hc_f_4, hc_f_5, hc_f_6, hc_f_7, hc_f_8, hc_f_9, hf_f_0, hf_f_1, hf_f_2, hf_f_3, hf_f_4, hf_f_5, hf_f_6, hf_f_7, hf_f_8, hf_f_9⟩ := qD BK_f.out))
  (try simp only [Exit.inBlock, Exit.then])
  go_ret
  exact ⟨rfl, HB.out⟩
 rw [if_neg t2] at h
 by_cases t3 : a0 = 3
 case pos =>
  subst t3
  replace h : qd.f k 3 a1 a2 a3 a4 l5 l6 l7 l8 l9 = some r := h
  have HX := za.mk h
  clear h
  go_enter Tryz.func19, Tryz.ntmps19
  go_wp2_with (first | ((with_reducible refine zJ (N := 1) rfl ?_); refine yg ?hg (N := 1) ?hd (cs := #[.int .i64 3, .int .i64 a1, .int .i64 a2, .int .i64 a3, .int .i64 a4, .slice A5 l5.length c5, .slice A6 l6.length c6, .slice A7 l7.length c7, .slice A8 l8.length c8, .slice A9 l9.length c9]) (t := 28) ?hr ?_; (case hd => rfl); (case hg => rfl); (case hr => first | (go_simp; done) | (go_simp; rfl)); intro g_f hg_ w1_ hbox_ hb_; have n0_ := za.mk (zp HB.out hb_); have n1_ := za.mk ((by rw [hg_]; exact HB.out.size : w.heap.size ≤ g_f)); have n2_ := za.mk (hbox_); (try clear HB); (try clear GE_f); (try clear BK_f); have HB := n0_; have GE_f := n1_; have BK_f := n2_; clear n0_ n1_ n2_; clear hbox_ hb_ hg_; obtain ⟨hc_f_0, hc_f_1, hc_f_2, hc_f_3, hc_f_4, hc_f_5, hc_f_6, hc_f_7, hc_f_8, hc_f_9, hf_f_0, hf_f_1, hf_f_2, hf_f_3, hf_f_4, hf_f_5, hf_f_6, hf_f_7, hf_f_8, hf_f_9⟩ := qD BK_f.out) | (go_at_call 60; (with_reducible refine (qd.calls k 3 a1 a2 a3 a4 A5 c5 l5 A6 c6 l6 A7 c7 l7 A8 c8 l8 A9 c9 l9 r _ ?s5 HL5.out ?s6 HL6.out ?s7 HL7.out ?s8 HL8.out ?s9 HL9.out HX.out).mono ?_); (case s5 => exact Kd.C_below HR5.out HB.out); (case s6 => exact Kd.C_below HR6.out HB.out); (case s7 => exact Kd.C_below HR7.out HB.out); (case s8 => exact Kd.C_below HR8.out HB.out); (case s9 => exact Kd.C_below HR9.out HB.out); rintro e_ w2_ ⟨rfl, hb_⟩; have n0_ := za.mk (zP BK_f.out hb_); have n1_ := za.mk (zp HB.out hb_); (try clear BK_f); (try clear HB); have BK_f := n0_; have HB := n1_; clear n0_ n1_; (try clear hc_f_0 hc_f_1 hc_f_2 hc_f_3 hc_f_4 hc_f_5 hc_f_6 hc_f_7 hc_f_8 hc_f_9 hf_f_0 hf_f_1 hf_f_2 hf_f_3 hf_f_4 hf_f_5 hf_f_6 hf_f_7 hf_f_8 hf_f_9); (try clear hb_); obtain ⟨hc_f_0, hc_f_1, hc_f_2, hc_f_3, hc_f_4, hc_f_5, hc_f_6, hc_f_7, hc_f_8, hc_f_9, hf_f_0, hf_f_1, hf_f_2, hf_f_3, hf_f_4, hf_f_5, hf_f_6, hf_f_7, hf_f_8, hf_f_9⟩ := qD BK_f.out))
  (try simp only [Exit.inBlock, Exit.then])
  go_ret
  exact ⟨rfl, HB.out⟩
 rw [if_neg t3] at h
 by_cases t4 : a0 = 4
 case pos =>
  subst t4
  replace h : xm.f k 4 a1 a2 a3 a4 l5 l6 l7 l8 l9 = some r := h
  have HX := za.mk h
  clear h
  go_enter Tryz.func19, Tryz.ntmps19
  go_wp2_with (first | ((with_reducible refine zJ (N := 1) rfl ?_); refine yg ?hg (N := 1) ?hd (cs := #[.int .i64 4, .int .i64 a1, .int .i64 a2, .int .i64 a3, .int .i64 a4, .slice A5 l5.length c5, .slice A6 l6.length c6, .slice A7 l7.length c7, .slice A8 l8.length c8, .slice A9 l9.length c9]) (t := 28) ?hr ?_; (case hd => rfl); (case hg => rfl); (case hr => first | (go_simp; done) | (go_simp; rfl)); intro g_f hg_ w1_ hbox_ hb_; have n0_ := za.mk (zp HB.out hb_); have n1_ := za.mk ((by rw [hg_]; exact HB.out.size : w.heap.size ≤ g_f)); have n2_ := za.mk (hbox_); (try clear HB); (try clear GE_f); (try clear BK_f); have HB := n0_; have GE_f := n1_; have BK_f := n2_; clear n0_ n1_ n2_; clear hbox_ hb_ hg_; obtain ⟨hc_f_0, hc_f_1, hc_f_2, hc_f_3, hc_f_4, hc_f_5, hc_f_6, hc_f_7, hc_f_8, hc_f_9, hf_f_0, hf_f_1, hf_f_2, hf_f_3, hf_f_4, hf_f_5, hf_f_6, hf_f_7, hf_f_8, hf_f_9⟩ := qD BK_f.out) | (go_at_call 61; (with_reducible refine (xm.calls k 4 a1 a2 a3 a4 A5 c5 l5 A6 c6 l6 A7 c7 l7 A8 c8 l8 A9 c9 l9 r _ ?s5 HL5.out ?s6 HL6.out ?s7 HL7.out ?s8 HL8.out ?s9 HL9.out HX.out).mono ?_); (case s5 => exact Kd.C_below HR5.out HB.out); (case s6 => exact Kd.C_below HR6.out HB.out); (case s7 => exact Kd.C_below HR7.out HB.out); (case s8 => exact Kd.C_below HR8.out HB.out); (case s9 => exact Kd.C_below HR9.out HB.out); rintro e_ w2_ ⟨rfl, hb_⟩; have n0_ := za.mk (zP BK_f.out hb_); have n1_ := za.mk (zp HB.out hb_); (try clear BK_f); (try clear HB); have BK_f := n0_; have HB := n1_; clear n0_ n1_; (try clear hc_f_0 hc_f_1 hc_f_2 hc_f_3 hc_f_4 hc_f_5 hc_f_6 hc_f_7 hc_f_8 hc_f_9 hf_f_0 hf_f_1 hf_f_2 hf_f_3 hf_f_4 hf_f_5 hf_f_6 hf_f_7 hf_f_8 hf_f_9); (try clear hb_); obtain ⟨hc_f_0, hc_f_1, hc_f_2, hc_f_3, hc_f_4, hc_f_5, hc_f_6, hc_f_7, hc_f_8, hc_f_9, hf_f_0, hf_f_1, hf_f_2, hf_f_3, hf_f_4, hf_f_5, hf_f_6, hf_f_7, hf_f_8, hf_f_9⟩ := qD BK_f.out))
  (try simp only [Exit.inBlock, Exit.then])
  go_ret
  exact ⟨rfl, HB.out⟩
 rw [if_neg t4] at h
 have e1 : (a0 == 1) = false := beq_eq_false_iff_ne.mpr t1
 have e2 : (a0 == 2) = false := beq_eq_false_iff_ne.mpr t2
 have e3 : (a0 == 3) = false := beq_eq_false_iff_ne.mpr t3
 have e4 : (a0 == 4) = false := beq_eq_false_iff_ne.mpr t4
 clear t1 t2 t3 t4
 have HX := za.mk h
 clear h
 go_enter Tryz.func19, Tryz.ntmps19
 go_wp2_with (first | ((with_reducible refine zJ (N := 1) rfl ?_); refine yg ?hg (N := 1) ?hd (cs := #[.int .i64 a0, .int .i64 a1, .int .i64 a2, .int .i64 a3, .int .i64 a4, .slice A5 l5.length c5, .slice A6 l6.length c6, .slice A7 l7.length c7, .slice A8 l8.length c8, .slice A9 l9.length c9]) (t := 28) ?hr ?_; (case hd => rfl); (case hg => rfl); (case hr => first | (go_simp; done) | (go_simp; rfl)); intro g_f hg_ w1_ hbox_ hb_; have n0_ := za.mk (zp HB.out hb_); have n1_ := za.mk ((by rw [hg_]; exact HB.out.size : w.heap.size ≤ g_f)); have n2_ := za.mk (hbox_); (try clear HB); (try clear GE_f); (try clear BK_f); have HB := n0_; have GE_f := n1_; have BK_f := n2_; clear n0_ n1_ n2_; clear hbox_ hb_ hg_; obtain ⟨hc_f_0, hc_f_1, hc_f_2, hc_f_3, hc_f_4, hc_f_5, hc_f_6, hc_f_7, hc_f_8, hc_f_9, hf_f_0, hf_f_1, hf_f_2, hf_f_3, hf_f_4, hf_f_5, hf_f_6, hf_f_7, hf_f_8, hf_f_9⟩ := qD BK_f.out) | (go_at_call 62; (with_reducible refine (qe.calls k a0 a1 a2 a3 a4 A5 c5 l5 A6 c6 l6 A7 c7 l7 A8 c8 l8 A9 c9 l9 r _ ?s5 HL5.out ?s6 HL6.out ?s7 HL7.out ?s8 HL8.out ?s9 HL9.out HX.out).mono ?_); (case s5 => exact Kd.C_below HR5.out HB.out); (case s6 => exact Kd.C_below HR6.out HB.out); (case s7 => exact Kd.C_below HR7.out HB.out); (case s8 => exact Kd.C_below HR8.out HB.out); (case s9 => exact Kd.C_below HR9.out HB.out); rintro e_ w2_ ⟨rfl, hb_⟩; have n0_ := za.mk (zP BK_f.out hb_); have n1_ := za.mk (zp HB.out hb_); (try clear BK_f); (try clear HB); have BK_f := n0_; have HB := n1_; clear n0_ n1_; (try clear hc_f_0 hc_f_1 hc_f_2 hc_f_3 hc_f_4 hc_f_5 hc_f_6 hc_f_7 hc_f_8 hc_f_9 hf_f_0 hf_f_1 hf_f_2 hf_f_3 hf_f_4 hf_f_5 hf_f_6 hf_f_7 hf_f_8 hf_f_9); (try clear hb_); obtain ⟨hc_f_0, hc_f_1, hc_f_2, hc_f_3, hc_f_4, hc_f_5, hc_f_6, hc_f_7, hc_f_8, hc_f_9, hf_f_0, hf_f_1, hf_f_2, hf_f_3, hf_f_4, hf_f_5, hf_f_6, hf_f_7, hf_f_8, hf_f_9⟩ := qD BK_f.out))
 (try simp only [Exit.inBlock, Exit.then])
 go_ret
 exact ⟨rfl, HB.out⟩
def yP.f (a0 : Int) : Option (ByteArray) := some (strOfNums (([(a0) % 256, (a0 / 256) % 256, (a0 / 65536) % 256, (a0 / 16777216) % 256] : List Int)))
theorem yP.calls (a0 : Int) (r : ByteArray) (w : World) (h : yP.f a0 = some r) :
  Calls Tryz.prog 55 #[.int .u32 a0] w fun e w' => e = .returned (.string r) ∧ Below w.heap.size w w' := by
 have HB := za.mk (Below.refl w.heap.size w)
 have H : (some (strOfNums (([(a0) % 256, (a0 / 256) % 256, (a0 / 65536) % 256, (a0 / 16777216) % 256] : List Int)))) = some r := h
 clear h
 obtain ⟨y389, hy389⟩ : ∃ y_ : List Int, y_ = (([(a0) % 256, (a0 / 256) % 256, (a0 / 65536) % 256, (a0 / 16777216) % 256] : List Int)) := ⟨_, rfl⟩
 replace H : (some (strOfNums y389)) = some r := by first | (rw [hy389]; with_reducible exact H) | (have H2_ := (Option.bind_some _ _).symm.trans H; rw [hy389]; with_reducible exact H2_) | (have H2_ := (Option.bind_some _ _).symm.trans H; with_reducible exact H2_) | with_reducible exact H | (rw [hy389]; exact H) | exact H
 have Ny389 := za.mk hy389
 clear hy389
 obtain rfl := Option.some.inj H
 go_enter Tryz.func55, Tryz.ntmps55
 go_wp2_with (first | ((with_reducible refine zJ (N := 14) rfl ?_); refine Kd.R_lit (Kd.int .u8) _ 5 ?hg (N := 14) ?hd (xs := ([(a0) % 256, (a0 / 256) % 256, (a0 / 65536) % 256, (a0 / 16777216) % 256] : List Int)) (inner := [.int .u8 ((a0) % 256), .int .u8 ((a0 / 256) % 256), .int .u8 ((a0 / 65536) % 256), .int .u8 ((a0 / 16777216) % 256)]) (ok := fun _ => True) (okp := fun _ => True) ?hr ?hp (fun _ hk => hk) trivial (Below.refl _ _) (Nat.le_refl _) (by simp) ?_; (case hd => rfl); (case hg => rfl); (case hr => first | (go_simp; done) | (go_simp; rfl)); (case hp => exact (zS.one (show Kd.M (Kd.int .u8) _ _ _ ((a0) % 256) [.int .u8 ((a0) % 256)] from rfl) (zS.one (show Kd.M (Kd.int .u8) _ _ _ ((a0 / 256) % 256) [.int .u8 ((a0 / 256) % 256)] from rfl) (zS.one (show Kd.M (Kd.int .u8) _ _ _ ((a0 / 65536) % 256) [.int .u8 ((a0 / 65536) % 256)] from rfl) (zS.one (show Kd.M (Kd.int .u8) _ _ _ ((a0 / 16777216) % 256) [.int .u8 ((a0 / 16777216) % 256)] from rfl) (zS.none _ _)))))); intro v390 w2 ho3 hb hg_ hnew_; clear hg_ hnew_; (first | rw [← Ny389.out] at ho3 | (simp only [Int.reduceToNat] at ho3; rw [← Ny389.out] at ho3)); have n0_ := za.mk (Kd.R_lower ho3 (zG (by repeat (first | (with_reducible first | exact HB.out | apply zc | apply zb | apply zd) | exact HB.out)))); have n1_ := za.mk (zp (by repeat (first | (with_reducible first | exact HB.out | apply zc | apply zb | apply zd) | exact HB.out)) hb); clear HB; have HO391 := n0_; have HB := n1_; clear n0_ n1_; clear hb ho3; have hcv4 := X6 (P := Tryz.prog) Tryz.underlying41 Tryz.underlying5 Tryz.underlying9 (Kd.own_of_R HO391.out)))
 go_ret
 exact ⟨by first | rfl | (simp [zn, zo] <;> rfl) | (simp [*, zn, zo] <;> rfl), by repeat (first | (with_reducible first | exact HB.out | apply zc | apply zb | apply zd) | exact HB.out)⟩
def ym.l0 : Nat → Int → Int → Option (Int)
 | 0, _, _ => none
 | k + 1, x0, x10 => if x10 < 8 then (if (Go.bits .and .u32 x0 1) = 1 then (ym.l0 k (Go.bits .xor .u32 (x0 / 2) 2197175160) (wrap64 (x10 + 1))) else (ym.l0 k (x0 / 2) (wrap64 (x10 + 1)))) else (some x0)
def ym.f (k : Nat) (a0 : Int) (a1 : Int) : Option (Int) := ym.l0 k (Go.bits .xor .u32 a0 ((a1) % 4294967296)) 0
theorem ym.calls (k : Nat) (a0 : Int) (a1 : Int) (r : Int) (w : World) (h : ym.f k a0 a1 = some r) :
  Calls Tryz.prog 130 #[.int .u32 a0, .int .u8 a1] w fun e w' => e = .returned (.int .u32 r) ∧ zj w w' := by
 have H : (ym.l0 k (Go.bits .xor .u32 a0 ((a1) % 4294967296)) 0) = some r := h
 clear h
 have H' := za.mk H
 clear H
 go_enter Tryz.func130, Tryz.ntmps130
 go_wp2
 go_loopg [0, 10] k (fun kq v0 v10 w' => ∃ (x0_1 : Int) (x10_1 : Int), v0 = .int .u32 x0_1 ∧ v10 = .int .i64 x10_1 ∧ za (ym.l0 kq x0_1 x10_1 = some r) ∧ za (kq ≤ k) ∧ zj w w')
 case atStart => exact ⟨(Go.bits .xor .u32 a0 ((a1) % 4294967296)), (0), (by first | rfl | (simp; done) | (simp [*]; done)), (by first | rfl | (simp; done) | (simp [*]; done)), H', ⟨Nat.le_refl _⟩, by repeat (first | exact zj.refl _ | apply zj.step)⟩
 case round =>
  clear H'
  try clear c1
  try clear p2
  obtain ⟨x0_1, x10_1, rfl, rfl, HA, HK1, ⟨m1, rfl⟩⟩ := hrel
  cases gk with
  | zero => exact absurd HA.out (by simp [ym.l0])
  | succ k1 =>
   have H := HA.out
   clear HA
   simp only [ym.l0] at H
   by_cases c3 : x10_1 < 8
   ·rw [if_pos c3] at H
    have c3b0 : decide (x10_1 < 8) = true := decide_eq_true c3
    clear c3
    by_cases c4 : (Go.bits .and .u32 x0_1 1) = 1
    ·rw [if_pos c4] at H
     have c4b0 : ((Go.bits .and .u32 x0_1 1) == 1) = true := beq_iff_eq.mpr c4
     have c4b1 : ((Go.bits .and .u32 x0_1 1) != 1) = false := bne_eq_false_iff_eq.mpr c4
     clear c4
     have H' := za.mk H
     clear H
     go_wp2
     go_roundg k1
     case measure => have := HK1.out; omega
     case rel => exact ⟨(Go.bits .xor .u32 (x0_1 / 2) 2197175160), (wrap64 (x10_1 + 1)), (by first | rfl | (simp; done) | (simp [*]; done)), (by first | rfl | (simp; done) | (simp [*]; done)), H', ⟨by have := HK1.out; omega⟩, by repeat (first | exact zj.refl _ | apply zj.step)⟩
    ·rw [if_neg c4] at H
     have c4b0 : ((Go.bits .and .u32 x0_1 1) == 1) = false := beq_eq_false_iff_ne.mpr c4
     have c4b1 : ((Go.bits .and .u32 x0_1 1) != 1) = true := bne_iff_ne.mpr c4
     have H' := za.mk H
     clear H
     go_wp2
     go_roundg k1
     case measure => have := HK1.out; omega
     case rel => exact ⟨(x0_1 / 2), (wrap64 (x10_1 + 1)), (by first | rfl | (simp; done) | (simp [*]; done)), (by first | rfl | (simp; done) | (simp [*]; done)), H', ⟨by have := HK1.out; omega⟩, by repeat (first | exact zj.refl _ | apply zj.step)⟩
   ·rw [if_neg c3] at H
    have c3b0 : decide (x10_1 < 8) = false := decide_eq_false c3
    clear c3
    obtain rfl := Option.some.inj H
    go_wp2
    go_ret
    exact ⟨by first | rfl | (simp; done) | (simp [*]; done), by repeat (first | exact zj.refl _ | apply zj.step)⟩
def yx.l0 : Nat → ByteArray → Int → Int → Int → Option (Int)
 | 0, _, _, _, _ => none
 | k + 1, x1, x5, x10, x11 => if x11 < x10 then (if 0 ≤ x11 then (if x11 < (x1.size : Int) then ((ym.f k x5 (bt x1 x11)).bind fun t392 => (yx.l0 k x1 t392 x10 (wrap64 (x11 + 1)))) else (none)) else (none)) else (some (Go.bits .xor .u32 4294967295 x5))
def yx.f (k : Nat) (a0 : Int) (a1 : ByteArray) : Option (Int) := yx.l0 k a1 (Go.bits .xor .u32 4294967295 a0) (a1.size : Int) 0
theorem yx.calls (k : Nat) (a0 : Int) (a1 : ByteArray) (r : Int) (w : World) (h : yx.f k a0 a1 = some r) :
  Calls Tryz.prog 100 #[.int .u32 a0, .string a1] w fun e w' => e = .returned (.int .u32 r) ∧ zj w w' := by
 have H : (yx.l0 k a1 (Go.bits .xor .u32 4294967295 a0) (a1.size : Int) 0) = some r := h
 clear h
 have H' := za.mk H
 clear H
 go_enter Tryz.func100, Tryz.ntmps100
 go_wp2
 go_loopg [5, 11] k (fun kq v5 v11 w' => ∃ (x5_1 : Int) (x11_1 : Int), v5 = .int .u32 x5_1 ∧ v11 = .int .i64 x11_1 ∧ za (yx.l0 kq a1 x5_1 (a1.size : Int) x11_1 = some r) ∧ za (kq ≤ k) ∧ zj w w')
 case atStart => exact ⟨(Go.bits .xor .u32 4294967295 a0), (0), (by first | rfl | (simp; done) | (simp [*]; done)), (by first | rfl | (simp; done) | (simp [*]; done)), H', ⟨Nat.le_refl _⟩, by repeat (first | exact zj.refl _ | apply zj.step)⟩
 case round =>
  clear H'
  try clear c1
  try clear p2
  obtain ⟨x5_1, x11_1, rfl, rfl, HA, HK1, ⟨m1, rfl⟩⟩ := hrel
  cases gk with
  | zero => exact absurd HA.out (by simp [yx.l0])
  | succ k1 =>
   have H := HA.out
   clear HA
   simp only [yx.l0] at H
   by_cases c3 : x11_1 < (a1.size : Int)
   ·rw [if_pos c3] at H
    have c3b0 : decide (x11_1 < (a1.size : Int)) = true := decide_eq_true c3
    clear c3
    by_cases c4 : 0 ≤ x11_1
    ·rw [if_pos c4] at H
     have c4b0 : decide (0 ≤ x11_1) = true := decide_eq_true c4
     clear c4
     by_cases c5 : x11_1 < (a1.size : Int)
     ·rw [if_pos c5] at H
      have c5b0 : decide (x11_1 < (a1.size : Int)) = true := decide_eq_true c5
      clear c5
      replace H := zdJ.mp H
      obtain ⟨t392, A70, H⟩ := H
      replace H : (yx.l0 k1 a1 t392 (a1.size : Int) (wrap64 (x11_1 + 1))) = some r := H
      have A7 := za.mk A70
      clear A70
      have H' := za.mk H
      clear H
      have p6 : 0 ≤ (x11_1 : Int) := of_decide_eq_true (by first | (with_reducible assumption) | assumption)
      have q6 : x11_1 < (a1.size : Int) := of_decide_eq_true (by first | (with_reducible assumption) | assumption)
      have hx6 := Xl a1 x11_1
      replace p6 := eq_true p6
      replace q6 := eq_true q6
      go_wp2_with (first | ((with_reducible refine zy (f := 130) rfl ?_); refine zU (some 18) rfl rfl Tryz.func130 (by kernel_rfl) rfl #[.int .u32 x5_1, .int .u8 (bt a1 x11_1)] rfl (by (try simp only [zdI, List.map_cons, List.map_nil]); first | done | rfl | (simp only [List.length_drop, List.length_take]; rfl)) ?_; (with_reducible refine (ym.calls k1 x5_1 (bt a1 x11_1) t392 _ A7.out).mono ?_); rintro e w' ⟨rfl, ⟨nd, rfl⟩⟩; refine ⟨_, rfl, ?_⟩))
      go_roundg k1
      case measure => have := HK1.out; omega
      case rel => exact ⟨(t392), (wrap64 (x11_1 + 1)), (by first | rfl | (simp; done) | (simp [*]; done)), (by first | rfl | (simp; done) | (simp [*]; done)), H', ⟨by have := HK1.out; omega⟩, by repeat (first | exact zj.refl _ | apply zj.step)⟩
     ·rw [if_neg c5] at H
      exact absurd H (by simp)
    ·rw [if_neg c4] at H
     exact absurd H (by simp)
   ·rw [if_neg c3] at H
    have c3b0 : decide (x11_1 < (a1.size : Int)) = false := decide_eq_false c3
    clear c3
    obtain rfl := Option.some.inj H
    go_wp2
    go_ret
    exact ⟨by first | rfl | (simp; done) | (simp [*]; done), by repeat (first | exact zj.refl _ | apply zj.step)⟩
def xE.f (k : Nat) (a0 : ByteArray) : Option (Int) := (yx.f k 0 a0).bind fun t393 => (some t393)
theorem xE.calls (k : Nat) (a0 : ByteArray) (r : Int) (w : World) (h : xE.f k a0 = some r) :
  Calls Tryz.prog 56 #[.string a0] w fun e w' => e = .returned (.int .u32 r) ∧ zj w w' := by
 have H : ((yx.f k 0 a0).bind fun t393 => (some t393)) = some r := h
 clear h
 replace H := zdJ.mp H
 obtain ⟨t393, A20, H⟩ := H
 replace H : (some t393) = some r := H
 have A2 := za.mk A20
 clear A20
 obtain rfl := Option.some.inj H
 go_enter Tryz.func56, Tryz.ntmps56
 go_wp2_with (first | ((with_reducible refine zy (f := 100) rfl ?_); refine zU (some 4) rfl rfl Tryz.func100 (by kernel_rfl) rfl #[.int .u32 0, .string a0] rfl (by (try simp only [zdI, List.map_cons, List.map_nil]); first | done | rfl | (simp only [List.length_drop, List.length_take]; rfl)) ?_; (with_reducible refine (yx.calls k 0 a0 t393 _ A2.out).mono ?_); rintro e w' ⟨rfl, ⟨nd, rfl⟩⟩; refine ⟨_, rfl, ?_⟩))
 go_ret
 exact ⟨by first | rfl | (simp; done) | (simp [*]; done), by repeat (first | exact zj.refl _ | apply zj.step)⟩
def ji.f (k : Nat) (a0 : ByteArray) : Option (ByteArray) := (xE.f k a0).bind fun t394 => ((yP.f t394).bind fun t395 => (if a0.size + t395.size ≤ 9223372036854775807 then (some (a0 ++ t395)) else (none)))
theorem ji.calls (k : Nat) (a0 : ByteArray) (r : ByteArray) (w : World) (h : ji.f k a0 = some r) :
  Calls Tryz.prog 17 #[.string a0] w fun e w' => e = .returned (.string r) ∧ Below w.heap.size w w' := by
 have HB := za.mk (Below.refl w.heap.size w)
 have H : ((xE.f k a0).bind fun t394 => ((yP.f t394).bind fun t395 => (if a0.size + t395.size ≤ 9223372036854775807 then (some (a0 ++ t395)) else (none)))) = some r := h
 clear h
 replace H := zdJ.mp H
 obtain ⟨t394, A20, H⟩ := H
 replace H : ((yP.f t394).bind fun t395 => (if a0.size + t395.size ≤ 9223372036854775807 then (some (a0 ++ t395)) else (none))) = some r := H
 have A2 := za.mk A20
 clear A20
 replace H := zdJ.mp H
 obtain ⟨t395, A30, H⟩ := H
 replace H : (if a0.size + t395.size ≤ 9223372036854775807 then (some (a0 ++ t395)) else (none)) = some r := H
 have A3 := za.mk A30
 clear A30
 by_cases c4 : a0.size + t395.size ≤ 9223372036854775807
 ·rw [if_pos c4] at H
  have c4b0 := eq_true c4
  have c4b1 : decide (a0.size + t395.size ≤ 9223372036854775807) = true := decide_eq_true c4
  try have c4b2 : (9223372036854775807 < a0.size + t395.size) = False := eq_false (Nat.not_lt.2 c4)
  obtain rfl := Option.some.inj H
  go_enter Tryz.func17, Tryz.ntmps17
  go_wp2_with (first | ((with_reducible refine zy (f := 56) rfl ?_); refine zU (some 5) rfl rfl Tryz.func56 (by kernel_rfl) rfl #[.string a0] rfl (by (try simp only [zdI, List.map_cons, List.map_nil]); first | done | rfl | (simp only [List.length_drop, List.length_take]; rfl)) ?_; (with_reducible refine (xE.calls k a0 t394 _ A2.out).mono ?_); rintro e w' ⟨rfl, ⟨nd, rfl⟩⟩; refine ⟨_, rfl, ?_⟩) | ((with_reducible refine zy (f := 55) rfl ?_); refine zU (some 6) rfl rfl Tryz.func55 (by kernel_rfl) rfl #[.int .u32 t394] rfl (by (try simp only [zdI, List.map_cons, List.map_nil]); first | done | rfl | (simp only [List.length_drop, List.length_take]; rfl)) ?_; (with_reducible refine (yP.calls t394 t395 _ A3.out).mono ?_); rintro e w5 ⟨rfl, hb⟩; refine ⟨_, rfl, ?_⟩; have n0_ := za.mk (zp (by repeat (first | (with_reducible first | exact HB.out | apply zc | apply zb | apply zd) | exact HB.out)) hb); clear HB; have HB := n0_; clear n0_; (try clear hb); (try clear hb2); (try clear hk); (try clear hi)))
  go_ret
  exact ⟨by first | rfl | (simp [zn, zo] <;> rfl) | (simp [*, zn, zo] <;> rfl), by repeat (first | (with_reducible first | exact HB.out | apply zc | apply zb | apply zd) | exact HB.out)⟩
 ·rw [if_neg c4] at H
  exact absurd H (by simp)
def Ye (x : Fm) (b : ByteArray) : Prop := ∃ k, qm.f k x.f0 x.f1 x.f2 x.f3 x.f4 x.f5 x.f6 x.f7 x.f8 x.f9 = some b
theorem Ye.calls {x : Fm} {b : ByteArray} {w : World} {cs : List Value} (h : Ye x b) (hx : FmC w x cs) : Calls Tryz.prog 19 #[.agg cs.toArray] w fun e w' => e = .returned (.string b) ∧ Below w.heap.size w w' := by
 obtain ⟨k, h⟩ := h
 obtain ⟨v5, v6, v7, v8, v9, rfl, ⟨A5, c5, rfl, l5, h5⟩, ⟨A6, c6, rfl, l6, h6⟩, ⟨A7, c7, rfl, l7, h7⟩, ⟨A8, c8, rfl, l8, h8⟩, ⟨A9, c9, rfl, l9, h9⟩⟩ := hx
 exact qm.calls k x.f0 x.f1 x.f2 x.f3 x.f4 A5 c5 x.f5 A6 c6 x.f6 A7 c7 x.f7 A8 c8 x.f8 A9 c9 x.f9 b w h5 l5 h6 l6 h7 l7 h8 l8 h9 l9 h
def ZD (x : Fm) (s : ByteArray) (e : Int) : Prop := (vY x false ∧ s = ⟨#[]⟩ ∧ e = 2) ∨ (vY x true ∧ ∃ n b, (∃ k, zx.f k [x.f0, x.f1, x.f2] = some n) ∧ Ye x b ∧ n.size + b.size ≤ 9223372036854775807 ∧ (∃ k, ji.f k (n ++ b) = some s) ∧ e = 0)
theorem ZD.calls {x : Fm} {s : ByteArray} {er : Int} {w : World} {cs : List Value} (h : ZD x s er) (hx : FmC w x cs) : Calls Tryz.prog 7 #[.agg cs.toArray] w fun e w' => e = .returned (.tuple #[.string s, .int .i64 er]) ∧ Below w.heap.size w w' := by
 have HX := hx
 obtain ⟨v5, v6, v7, v8, v9, rfl, h5, h6, h7, h8, h9⟩ := hx
 obtain ⟨A5, c5, rfl, _⟩ := h5.id
 obtain ⟨A6, c6, rfl, _⟩ := h6.id
 obtain ⟨A7, c7, rfl, _⟩ := h7.id
 obtain ⟨A8, c8, rfl, _⟩ := h8.id
 obtain ⟨A9, c9, rfl, _⟩ := h9.id
 clear h5 h6 h7 h8 h9
 have HS := (Sat.nil w).row (Ty.R (Kd.int .u8) 5 w.heap.size (.slice none 0 0) []) (Kd.R_nil _ _ _ _ _)
 replace HX := za.mk HX
 rcases h with ⟨hr, rfl, rfl⟩ | ⟨hr, n, b, ⟨_, hn⟩, hf, hz, ⟨_, hs⟩, rfl⟩
 ·replace hr := za.mk hr
  go_enter Tryz.func7, Tryz.ntmps7
  go_wp2_with ((first | ((with_reducible refine gB rfl ?_); refine zC HS ?_) | ((with_reducible refine gA rfl ?_); refine zt HS ?_) | ((with_reducible refine gS rfl ?_); refine zr HS ?_) | (go_at_call 16; refine HS.go (hr.out.calls (HX.out.below HS.below)) ?_)); clear HS; (try clear hc); intros; rename_i HS; have hc := HS.lk; simp only [Lk, LkC, Value.cells, List.toList_toArray, Nat.reduceAdd, Nat.zero_add, and_true, zf, zg, ze, zh] at HS hc)
  go_ret2
  exact ⟨rfl, HS.below⟩
 ·replace hr := za.mk hr
  replace hn := za.mk hn
  replace hf := za.mk hf
  replace hs := za.mk hs
  have hz2 : ¬ n.size + b.size > 9223372036854775807 := Nat.not_lt.2 hz
  have hz3 : ¬ 9223372036854775807 < n.size + b.size := Nat.not_lt.2 hz
  clear hz
  go_enter Tryz.func7, Tryz.ntmps7
  go_wp2_with (first | ((first | ((with_reducible refine gB rfl ?_); refine zC HS ?_) | ((with_reducible refine gA rfl ?_); refine zt HS ?_) | ((with_reducible refine gS rfl ?_); refine zr HS ?_) | (go_at_call 16; refine HS.go (hr.out.calls (HX.out.below HS.below)) ?_)); clear HS; (try clear hc); intros; rename_i HS; have hc := HS.lk; simp only [Lk, LkC, Value.cells, List.toList_toArray, Nat.reduceAdd, Nat.zero_add, and_true, zf, zg, ze, zh] at HS hc) | (refine yt (.op 0 0 7 (.op 1 0 8 (.op 2 0 9 (.op 3 0 10 (.op 4 0 11 (.op 5 0 12 (.op 8 0 15 (.op 6 2 13 (.op 7 2 14 (.op 9 2 16 (.op 10 1 17 (.op 11 2 18 (.op 12 1 2 (.op 13 1 3 .nil)))))))))))))) [] HS (List.Sublist.refl _) ?_; clear HS hc; intro HS hS; (repeat' (first | refine RT.tk ?_ | refine RT.pu ?_ | refine RT.f2 ?_ ?_ | refine RT.o1 ?_ | (refine Qa (l := [x.f0, x.f1, x.f2]) HS (List.Sublist.refl _) ?_ (by simp); clear HS; intro g_ w_ HS; refine RT.nm ?_) | (refine Zm HS (List.Sublist.refl _) (zx.calls _ _ _ _ _ _ (Kd.R_reads' (HS.rows _ (.tail _ (.head _))).2).2.2 (Nat.le_refl _) hn.out) ?_; clear HS; intro w_ HS; refine RT.nm ?_) | (refine Zm HS (List.Sublist.refl _) (Ye.calls hf.out (HX.out.below HS.below)) ?_; clear HS; intro w_ HS; refine RT.nm ?_) | (refine Zm HS (List.Sublist.refl _) (ji.calls _ _ _ _ hs.out) ?_; clear HS; intro w_ HS; refine RT.nm ?_))); have hc := HS.lk; simp only [Lk, LkC, Value.cells, List.toList_toArray, Nat.reduceAdd, Nat.zero_add, and_true, zf, zg, ze, zh] at HS hc; refine RT.nil ?_))
  go_ret2
  exact ⟨rfl, HS.below⟩
mutual
def zm.j0 : Nat → ByteArray → Int → Bool → Option (Int × Int × Int)
 | 0, _, _, _ => none
 | k + 1, x0, x1, x18 => if x18 = true then (some (0, 0, 3)) else (zm.l0 k x0 x1 0 0)
def zm.l0 : Nat → ByteArray → Int → Int → Int → Option (Int × Int × Int)
 | 0, _, _, _, _ => none
 | k + 1, x0, x1, x7, x8 => if (wrap64 (x1 + x8)) < (x0.size : Int) then (if 0 ≤ (wrap64 (x1 + x8)) then (if x8 = 9 then (zm.j2 k x0 x1 x7 x8 (bt x0 (wrap64 (x1 + x8))) (decide ((bt x0 (wrap64 (x1 + x8))) > 1))) else (zm.j2 k x0 x1 x7 x8 (bt x0 (wrap64 (x1 + x8))) false)) else (none)) else (some (0, 0, 5))
def zm.j2 : Nat → ByteArray → Int → Int → Int → Int → Bool → Option (Int × Int × Int)
 | 0, _, _, _, _, _, _ => none
 | k + 1, x0, x1, x7, x8, x9, x37 => if x37 = true then (some (0, 0, 6)) else (if 0 ≤ (wrap64 (7 * x8)) then (if x9 ≥ 128 then (zm.l0 k x0 x1 (Go.bits .or .u64 x7 (shl .u64 (IntKind.u64.wrap (Go.bits .and .u8 x9 127)) (wrap64 (7 * x8)))) (wrap64 (x8 + 1))) else (if x9 = 0 then (zm.j3 k x1 (Go.bits .or .u64 x7 (shl .u64 (IntKind.u64.wrap (Go.bits .and .u8 x9 127)) (wrap64 (7 * x8)))) x8 (decide (x8 > 0))) else (zm.j3 k x1 (Go.bits .or .u64 x7 (shl .u64 (IntKind.u64.wrap (Go.bits .and .u8 x9 127)) (wrap64 (7 * x8)))) x8 false))) else (none))
def zm.j3 : Nat → Int → Int → Int → Bool → Option (Int × Int × Int)
 | 0, _, _, _, _ => none
 | k + 1, x1, x7, x8, x53 => if x53 = true then (some (0, 0, 6)) else (if (Go.bits .and .u64 x7 1) = 1 then (some (Go.bits .xor .i64 (-1) (wrap64 (x7 / 2)), wrap64 ((wrap64 (x1 + x8)) + 1), 0)) else (some (wrap64 (x7 / 2), wrap64 ((wrap64 (x1 + x8)) + 1), 0)))
end
def zm.f (k : Nat) (a0 : ByteArray) (a1 : Int) : Option (Int × Int × Int) := if a1 < 0 then (zm.j0 k a0 a1 true) else (zm.j0 k a0 a1 (decide (a1 > (a0.size : Int))))
theorem zm.calls (k : Nat) (a0 : ByteArray) (a1 : Int) (r1 : Int) (r2 : Int) (r3 : Int) (w : World) (h : zm.f k a0 a1 = some (r1, r2, r3)) :
  Calls Tryz.prog 75 #[.string a0, .int .i64 a1] w fun e w' => e = .returned (.tuple #[.int .i64 r1, .int .i64 r2, .int .i64 r3]) ∧ zj w w' := by
 have H : (if a1 < 0 then (zm.j0 k a0 a1 true) else (zm.j0 k a0 a1 (decide (a1 > (a0.size : Int))))) = some (r1, r2, r3) := h
 clear h
 have HC3 := za.mk H
 clear H
 go_enter Tryz.func75, Tryz.ntmps75
 go_upto_region 1 with (fail)
 go_cut [18] (fun v18 wc => ∃ (kq : Nat) (x18_2 : Bool), v18 = .bool x18_2 ∧ za (zm.j0 kq a0 a1 x18_2 = some (r1, r2, r3)) ∧ za (kq ≤ k) ∧ zj w wc)
 case first =>
  have H := HC3.out
  clear HC3
  by_cases c4 : a1 < 0
  ·rw [if_pos c4] at H
   have c4b0 : decide (a1 < 0) = true := decide_eq_true c4
   clear c4
   (first | rw [c4b0] | (simp only [z6, ya]; rw [c4b0]) | skip)
   have H' := za.mk H
   clear H
   go_wp2
   go_meet
   case rel => exact ⟨_, (true), (by first | rfl | (simp; done) | (simp [*]; done)), H', ⟨by first | omega | exact Nat.le_refl _⟩, by repeat (first | exact zj.refl _ | apply zj.step)⟩
  ·rw [if_neg c4] at H
   have c4b0 : decide (a1 < 0) = false := decide_eq_false c4
   clear c4
   (first | rw [c4b0] | (simp only [z6, ya]; rw [c4b0]) | skip)
   have H' := za.mk H
   clear H
   go_wp2
   go_meet
   case rel => exact ⟨_, (decide (a1 > (a0.size : Int))), (by first | rfl | (simp; done) | (simp [*]; done)), H', ⟨by first | omega | exact Nat.le_refl _⟩, by repeat (first | exact zj.refl _ | apply zj.step)⟩
 case rest =>
  clear HC3
  try clear p2
  try clear c4
  try clear c4b0
  obtain ⟨kq, x18_2, rfl, HA, HJ2, ⟨mc2, rfl⟩⟩ := hcut
  cases kq with
  | zero => exact absurd HA.out (by simp [zm.j0])
  | succ kj2 =>
   have H := HA.out
   clear HA
   simp only [zm.j0] at H
   by_cases c5 : x18_2 = true
   ·subst c5
    have H1 : (some (0, 0, 3)) = some (r1, r2, r3) := by rw [if_pos rfl] at H; exact H
    clear H
    have H := H1
    clear H1
    simp only [Option.some.injEq, Prod.mk.injEq] at H
    obtain ⟨rfl, rfl, rfl⟩ := H
    go_wp2
    go_ret3
    exact ⟨by first | rfl | (simp; done) | (simp [*]; done), by repeat (first | exact zj.refl _ | apply zj.step)⟩
   ·replace c5 := zdL.mpr c5
    subst c5
    have H1 : (zm.l0 kj2 a0 a1 0 0) = some (r1, r2, r3) := by rw [if_neg (show ¬ (false = true) by decide)] at H; exact H
    clear H
    have H := H1
    clear H1
    have H' := za.mk H
    clear H
    go_wp2
    go_loopg [7, 8] kj2 (fun kq v7 v8 w' => ∃ (x7_2 : Int) (x8_2 : Int), v7 = .int .u64 x7_2 ∧ v8 = .int .i64 x8_2 ∧ za (zm.l0 kq a0 a1 x7_2 x8_2 = some (r1, r2, r3)) ∧ za (kq ≤ kj2) ∧ zj w w')
    case atStart => exact ⟨(0), (0), (by first | rfl | (simp; done) | (simp [*]; done)), (by first | rfl | (simp; done) | (simp [*]; done)), H', ⟨Nat.le_refl _⟩, by repeat (first | exact zj.refl _ | apply zj.step)⟩
    case round =>
     clear H'
     try clear c2
     try clear p2
     try clear c4
     try clear c4b0
     try clear c5
     try clear p2
     obtain ⟨x7_2, x8_2, rfl, rfl, HA, HK2, ⟨m2, rfl⟩⟩ := hrel
     cases gk with
     | zero => exact absurd HA.out (by simp [zm.l0])
     | succ k2 =>
      have H := HA.out
      clear HA
      simp only [zm.l0] at H
      by_cases c6 : (wrap64 (a1 + x8_2)) < (a0.size : Int)
      ·rw [if_pos c6] at H
       have c6b0 : decide ((wrap64 (a1 + x8_2)) < (a0.size : Int)) = true := decide_eq_true c6
       clear c6
       obtain ⟨ji7, hji7⟩ : ∃ j_ : Int, (wrap64 (a1 + x8_2)) = j_ := ⟨_, rfl⟩
       replace H : (if 0 ≤ (ji7) then (if x8_2 = 9 then (zm.j2 k2 a0 a1 x7_2 x8_2 (bt a0 (ji7)) (decide ((bt a0 (ji7)) > 1))) else (zm.j2 k2 a0 a1 x7_2 x8_2 (bt a0 (ji7)) false)) else (none)) = some (r1, r2, r3) := by first | (rw [hji7] at H; exact H) | (simp only [hji7] at H ⊢; exact H)
       (try rw [hji7] at c6b0)
       have hji7w : (IntKind.i64.wrap (a1 + x8_2)) = ji7 := (z6 _).trans hji7
       by_cases c8 : 0 ≤ (ji7)
       ·rw [if_pos c8] at H
        have c8b0 : decide (0 ≤ (ji7)) = true := decide_eq_true c8
        clear c8
        have HC10 := za.mk H
        clear H
        have p9 : 0 ≤ ((ji7) : Int) := of_decide_eq_true (by first | (with_reducible assumption) | assumption)
        have q9 : (ji7) < (a0.size : Int) := of_decide_eq_true (by first | (with_reducible assumption) | assumption)
        have hx9 := Xl a0 (ji7)
        replace p9 := eq_true p9
        replace q9 := eq_true q9
        go_upto_region 8 with (fail)
        go_cut [37] (fun v37 wc => ∃ (kq : Nat) (x37_9 : Bool), v37 = .bool x37_9 ∧ za (zm.j2 kq a0 a1 x7_2 x8_2 (bt a0 (ji7)) x37_9 = some (r1, r2, r3)) ∧ za (kq ≤ k2) ∧ zj w wc)
        case first =>
         have H := HC10.out
         clear HC10
         by_cases c11 : x8_2 = 9
         ·rw [if_pos c11] at H
          have c11b0 : (x8_2 == 9) = true := beq_iff_eq.mpr c11
          have c11b1 : (x8_2 != 9) = false := bne_eq_false_iff_eq.mpr c11
          clear c11
          (first | rw [c11b0] | (simp only [z6, ya]; rw [c11b0]) | skip)
          have H' := za.mk H
          clear H
          go_wp2
          go_meet
          case rel => exact ⟨_, (decide ((bt a0 (ji7)) > 1)), (by first | rfl | (simp; done) | (simp only [← hji7] <;> (first | rfl | simp)) | (simp [*]; done)), H', ⟨by have := HJ2.out; have := HK2.out; first | omega | exact Nat.le_refl _⟩, by repeat (first | exact zj.refl _ | apply zj.step)⟩
         ·rw [if_neg c11] at H
          have c11b0 : (x8_2 == 9) = false := beq_eq_false_iff_ne.mpr c11
          have c11b1 : (x8_2 != 9) = true := bne_iff_ne.mpr c11
          (first | rw [c11b0] | (simp only [z6, ya]; rw [c11b0]) | skip)
          have H' := za.mk H
          clear H
          go_wp2
          go_meet
          case rel => exact ⟨_, (false), (by first | rfl | (simp; done) | (simp [*]; done)), H', ⟨by have := HJ2.out; have := HK2.out; first | omega | exact Nat.le_refl _⟩, by repeat (first | exact zj.refl _ | apply zj.step)⟩
        case rest =>
         clear HC10
         try clear c1
         try clear c2
         try clear p2
         try clear c4
         try clear c4b0
         try clear c5
         try clear c6
         try clear c6b0
         try clear p6
         try clear c7
         try clear c8
         try clear c8b0
         try clear p9
         try clear q9
         try clear hx9
         try clear c11
         try clear c11b0
         try clear c11b1
         try clear p2
         try clear p9
         try clear q9
         obtain ⟨kq, x37_9, rfl, HA, HJ9, ⟨mc9, rfl⟩⟩ := hcut
         cases kq with
         | zero => exact absurd HA.out (by simp [zm.j2])
         | succ kj9 =>
          have H := HA.out
          clear HA
          simp only [zm.j2] at H
          by_cases c12 : x37_9 = true
          ·subst c12
           have H1 : (some (0, 0, 6)) = some (r1, r2, r3) := by rw [if_pos rfl] at H; exact H
           clear H
           have H := H1
           clear H1
           simp only [Option.some.injEq, Prod.mk.injEq] at H
           obtain ⟨rfl, rfl, rfl⟩ := H
           go_wp2
           go_ret3
           exact ⟨by first | rfl | (simp; done) | (simp only [← hji7] <;> (first | rfl | simp)) | (simp [*]; done), by repeat (first | exact zj.refl _ | apply zj.step)⟩
          ·replace c12 := zdL.mpr c12
           subst c12
           have H1 : (if 0 ≤ (wrap64 (7 * x8_2)) then (if (bt a0 (ji7)) ≥ 128 then (zm.l0 kj9 a0 a1 (Go.bits .or .u64 x7_2 (shl .u64 (IntKind.u64.wrap (Go.bits .and .u8 (bt a0 (ji7)) 127)) (wrap64 (7 * x8_2)))) (wrap64 (x8_2 + 1))) else (if (bt a0 (ji7)) = 0 then (zm.j3 kj9 a1 (Go.bits .or .u64 x7_2 (shl .u64 (IntKind.u64.wrap (Go.bits .and .u8 (bt a0 (ji7)) 127)) (wrap64 (7 * x8_2)))) x8_2 (decide (x8_2 > 0))) else (zm.j3 kj9 a1 (Go.bits .or .u64 x7_2 (shl .u64 (IntKind.u64.wrap (Go.bits .and .u8 (bt a0 (ji7)) 127)) (wrap64 (7 * x8_2)))) x8_2 false))) else (none)) = some (r1, r2, r3) := by rw [if_neg (show ¬ (false = true) by decide)] at H; exact H
           clear H
           have H := H1
           clear H1
           obtain ⟨ji13, hji13⟩ : ∃ j_ : Int, (wrap64 (7 * x8_2)) = j_ := ⟨_, rfl⟩
           replace H : (if 0 ≤ (ji13) then (if (bt a0 (ji7)) ≥ 128 then (zm.l0 kj9 a0 a1 (Go.bits .or .u64 x7_2 (shl .u64 (IntKind.u64.wrap (Go.bits .and .u8 (bt a0 (ji7)) 127)) (ji13))) (wrap64 (x8_2 + 1))) else (if (bt a0 (ji7)) = 0 then (zm.j3 kj9 a1 (Go.bits .or .u64 x7_2 (shl .u64 (IntKind.u64.wrap (Go.bits .and .u8 (bt a0 (ji7)) 127)) (ji13))) x8_2 (decide (x8_2 > 0))) else (zm.j3 kj9 a1 (Go.bits .or .u64 x7_2 (shl .u64 (IntKind.u64.wrap (Go.bits .and .u8 (bt a0 (ji7)) 127)) (ji13))) x8_2 false))) else (none)) = some (r1, r2, r3) := by first | (rw [hji13] at H; exact H) | (simp only [hji13] at H ⊢; exact H)
           have hji13w : (IntKind.i64.wrap (7 * x8_2)) = ji13 := (z6 _).trans hji13
           by_cases c14 : 0 ≤ (ji13)
           ·rw [if_pos c14] at H
            have c14b0 := eq_true c14
            have c14b1 : decide (0 ≤ (ji13)) = true := decide_eq_true c14
            clear c14
            obtain ⟨ji15, hji15⟩ : ∃ j_ : Int, (shl .u64 (IntKind.u64.wrap (Go.bits .and .u8 (bt a0 (ji7)) 127)) (ji13)) = j_ := ⟨_, rfl⟩
            replace H : (if (bt a0 (ji7)) ≥ 128 then (zm.l0 kj9 a0 a1 (Go.bits .or .u64 x7_2 (ji15)) (wrap64 (x8_2 + 1))) else (if (bt a0 (ji7)) = 0 then (zm.j3 kj9 a1 (Go.bits .or .u64 x7_2 (ji15)) x8_2 (decide (x8_2 > 0))) else (zm.j3 kj9 a1 (Go.bits .or .u64 x7_2 (ji15)) x8_2 false))) = some (r1, r2, r3) := by first | (rw [hji15] at H; exact H) | (simp only [hji15] at H ⊢; exact H)
            have hji15_ : (IntKind.u64.wrap ((IntKind.u64.wrap (Go.bits .and .u8 (bt a0 (ji7)) 127)) * 2 ^ min (ji13).toNat 64)) = ji15 := hji15
            have hji15z : (ji13) ≤ 64 → (IntKind.u64.wrap ((IntKind.u64.wrap (Go.bits .and .u8 (bt a0 (ji7)) 127)) * 2 ^ (ji13).toNat)) = ji15 := zbv hji15
            by_cases c16 : (bt a0 (ji7)) ≥ 128
            ·rw [if_pos c16] at H
             have c16b0 : decide (128 ≤ (bt a0 (ji7))) = true := decide_eq_true c16
             clear c16
             have H' := za.mk H
             clear H
             go_wp2
             go_roundg kj9
             case measure => have := HJ2.out; have := HK2.out; have := HJ9.out; omega
             case rel => exact ⟨(Go.bits .or .u64 x7_2 (ji15)), (wrap64 (x8_2 + 1)), (by first | rfl | (simp; done) | (simp only [← hji15] <;> (first | rfl | simp)) | (simp [*]; done)), (by first | rfl | (simp; done) | (simp [*]; done)), H', ⟨by have := HJ2.out; have := HK2.out; have := HJ9.out; omega⟩, by repeat (first | exact zj.refl _ | apply zj.step)⟩
            ·rw [if_neg c16] at H
             have c16b0 : decide (128 ≤ (bt a0 (ji7))) = false := decide_eq_false c16
             clear c16
             have HC17 := za.mk H
             clear H
             go_upto_region 12 with (fail)
             go_cut [53] (fun v53 wc => ∃ (kq : Nat) (x53_16 : Bool), v53 = .bool x53_16 ∧ za (zm.j3 kq a1 (Go.bits .or .u64 x7_2 (ji15)) x8_2 x53_16 = some (r1, r2, r3)) ∧ za (kq ≤ kj9) ∧ zj w wc)
             case first =>
              have H := HC17.out
              clear HC17
              by_cases c18 : (bt a0 (ji7)) = 0
              ·rw [if_pos c18] at H
               have c18b0 : ((bt a0 (ji7)) == 0) = true := beq_iff_eq.mpr c18
               have c18b1 : ((bt a0 (ji7)) != 0) = false := bne_eq_false_iff_eq.mpr c18
               clear c18
               (first | rw [c18b0] | (simp only [z6, ya]; rw [c18b0]) | skip)
               have H' := za.mk H
               clear H
               go_wp2
               go_meet
               case rel => exact ⟨_, (decide (x8_2 > 0)), (by first | rfl | (simp; done) | (simp [*]; done)), H', ⟨by have := HJ2.out; have := HK2.out; have := HJ9.out; first | omega | exact Nat.le_refl _⟩, by repeat (first | exact zj.refl _ | apply zj.step)⟩
              ·rw [if_neg c18] at H
               have c18b0 : ((bt a0 (ji7)) == 0) = false := beq_eq_false_iff_ne.mpr c18
               have c18b1 : ((bt a0 (ji7)) != 0) = true := bne_iff_ne.mpr c18
               (first | rw [c18b0] | (simp only [z6, ya]; rw [c18b0]) | skip)
               have H' := za.mk H
               clear H
               go_wp2
               go_meet
               case rel => exact ⟨_, (false), (by first | rfl | (simp; done) | (simp [*]; done)), H', ⟨by have := HJ2.out; have := HK2.out; have := HJ9.out; first | omega | exact Nat.le_refl _⟩, by repeat (first | exact zj.refl _ | apply zj.step)⟩
             case rest =>
              clear HC17
              try clear c1
              try clear c2
              try clear p2
              try clear c4
              try clear c4b0
              try clear c5
              try clear c6
              try clear c6b0
              try clear p6
              try clear c7
              try clear c8
              try clear c8b0
              try clear c9
              try clear p9
              try clear q9
              try clear hx9
              try clear c11
              try clear c11b0
              try clear c11b1
              try clear c12
              try clear c14
              try clear c14b0
              try clear c14b1
              try clear c16
              try clear c16b0
              try clear c18
              try clear c18b0
              try clear c18b1
              try clear p2
              try clear p6
              try clear p9
              try clear q9
              obtain ⟨kq, x53_16, rfl, HA, HJ16, ⟨mc16, rfl⟩⟩ := hcut
              cases kq with
              | zero => exact absurd HA.out (by simp [zm.j3])
              | succ kj16 =>
               have H := HA.out
               clear HA
               simp only [zm.j3] at H
               by_cases c19 : x53_16 = true
               ·subst c19
                have H1 : (some (0, 0, 6)) = some (r1, r2, r3) := by rw [if_pos rfl] at H; exact H
                clear H
                have H := H1
                clear H1
                simp only [Option.some.injEq, Prod.mk.injEq] at H
                obtain ⟨rfl, rfl, rfl⟩ := H
                go_wp2
                go_ret3
                exact ⟨by first | rfl | (simp; done) | (simp only [← hji7, ← hji13, ← hji15] <;> (first | rfl | simp)) | (simp [*]; done), by repeat (first | exact zj.refl _ | apply zj.step)⟩
               ·replace c19 := zdL.mpr c19
                subst c19
                have H1 : (if (Go.bits .and .u64 (Go.bits .or .u64 x7_2 (ji15)) 1) = 1 then (some (Go.bits .xor .i64 (-1) (wrap64 ((Go.bits .or .u64 x7_2 (ji15)) / 2)), wrap64 ((wrap64 (a1 + x8_2)) + 1), 0)) else (some (wrap64 ((Go.bits .or .u64 x7_2 (ji15)) / 2), wrap64 ((wrap64 (a1 + x8_2)) + 1), 0))) = some (r1, r2, r3) := by rw [if_neg (show ¬ (false = true) by decide)] at H; exact H
                clear H
                have H := H1
                clear H1
                by_cases c20 : (Go.bits .and .u64 (Go.bits .or .u64 x7_2 (ji15)) 1) = 1
                ·rw [if_pos c20] at H
                 have c20b0 : ((Go.bits .and .u64 (Go.bits .or .u64 x7_2 (ji15)) 1) == 1) = true := beq_iff_eq.mpr c20
                 have c20b1 : ((Go.bits .and .u64 (Go.bits .or .u64 x7_2 (ji15)) 1) != 1) = false := bne_eq_false_iff_eq.mpr c20
                 clear c20
                 simp only [Option.some.injEq, Prod.mk.injEq] at H
                 obtain ⟨rfl, rfl, rfl⟩ := H
                 go_wp2
                 go_ret3
                 exact ⟨by first | rfl | (simp; done) | (simp only [← hji7, ← hji13, ← hji15] <;> (first | rfl | simp)) | (simp [*]; done), by repeat (first | exact zj.refl _ | apply zj.step)⟩
                ·rw [if_neg c20] at H
                 have c20b0 : ((Go.bits .and .u64 (Go.bits .or .u64 x7_2 (ji15)) 1) == 1) = false := beq_eq_false_iff_ne.mpr c20
                 have c20b1 : ((Go.bits .and .u64 (Go.bits .or .u64 x7_2 (ji15)) 1) != 1) = true := bne_iff_ne.mpr c20
                 simp only [Option.some.injEq, Prod.mk.injEq] at H
                 obtain ⟨rfl, rfl, rfl⟩ := H
                 go_wp2
                 go_ret3
                 exact ⟨by first | rfl | (simp; done) | (simp only [← hji7, ← hji13, ← hji15] <;> (first | rfl | simp)) | (simp [*]; done), by repeat (first | exact zj.refl _ | apply zj.step)⟩
           ·rw [if_neg c14] at H
            exact absurd H (by simp)
       ·rw [if_neg c8] at H
        exact absurd H (by simp)
      ·rw [if_neg c6] at H
       have c6b0 : decide ((wrap64 (a1 + x8_2)) < (a0.size : Int)) = false := decide_eq_false c6
       clear c6
       simp only [Option.some.injEq, Prod.mk.injEq] at H
       obtain ⟨rfl, rfl, rfl⟩ := H
       go_wp2
       go_ret3
       exact ⟨by first | rfl | (simp; done) | (simp [*]; done), by repeat (first | exact zj.refl _ | apply zj.step)⟩
def yy : List Nat → Nat → Nat × Nat × Int
 | [], _ => (0, 0, 5)
 | c :: l, k => if k = 9 ∧ 1 < c then (0, 0, 6) else if 128 ≤ c then (if (yy l (k + 1)).2.2 = 0 then (c - 128 + 128 * (yy l (k + 1)).1, (yy l (k + 1)).2.1 + 1, 0) else (0, 0, (yy l (k + 1)).2.2)) else if c = 0 ∧ 0 < k then (0, 0, 6) else (c, 1, 0)
def unz (u : Nat) : Int := if u % 2 = 1 then -((u / 2 : Nat) : Int) - 1 else ((u / 2 : Nat) : Int)
def jU (a : Int) (lo k : Nat) (r : Nat × Nat × Int) : Int × Int × Int := if r.2.2 = 0 then (unz (lo + 128 ^ k * r.1), a + (k : Int) + (r.2.1 : Int), 0) else (0, 0, r.2.2)
def yo (s : ByteArray) (a : Int) : Int × Int × Int := if a < 0 ∨ (s.size : Int) < a then (0, 0, 3) else jU a 0 0 (yy ((bl s).drop a.toNat) 0)
theorem zbn (a : Int) (lo k c : Nat) (l : List Nat) (hk : k ≠ 9) (hc : 128 ≤ c) : jU a lo k (yy (c :: l) k) = jU a (lo + (c - 128) * 128 ^ k) (k + 1) (yy l (k + 1)) := by
 rw [yy, if_neg (by omega), if_pos hc]
 generalize yy l (k + 1) = r
 unfold jU
 by_cases h : r.2.2 = 0
 ·rw [if_pos h, if_pos h, if_pos rfl]
  have e1 : lo + 128 ^ k * (c - 128 + 128 * r.1) = lo + (c - 128) * 128 ^ k + 128 ^ (k + 1) * r.1 := by
   rw [Nat.mul_add, Nat.pow_succ, Nat.mul_comm (128 ^ k) (c - 128), ← Nat.mul_assoc, Nat.add_assoc]
  have e2 : a + (k : Int) + ((r.2.1 + 1 : Nat) : Int) = a + ((k + 1 : Nat) : Int) + (r.2.1 : Int) := by omega
  show (unz (lo + 128 ^ k * (c - 128 + 128 * r.1)), a + (k : Int) + ((r.2.1 + 1 : Nat) : Int), (0 : Int)) = _
  rw [e1, e2]
 ·rw [if_neg h, if_neg h, if_neg h]
theorem J3 (k : Nat) : 128 ^ k = 2 ^ (7 * k) := by rw [Nat.pow_mul]
theorem QX (n : Int) (h0 : 0 ≤ n) (h1 : n < 2 ^ 64) : IntKind.u64.wrap n = n := by rw [jF]; omega
theorem zdv (a b : Nat) (ha : a < 18446744073709551616) (hb : b < 18446744073709551616) : Go.bits .or .u64 (a : Int) (b : Int) = ((a ||| b : Nat) : Int) :=
 (bits_nat .u64 64 (by decide) QX a b ha hb).2
theorem zdz (c : Nat) (hc : c < 256) : Go.bits .and .u8 (c : Int) 127 = ((c % 128 : Nat) : Int) := by
 have h := bits_mask .u8 8 (by decide) wraps_u8 7 (by decide) (c : Int) (by omega) (by omega)
 have e : ((2 : Int) ^ 7 - 1) = 127 := by decide
 have e2 : ((2 : Int) ^ 7) = 128 := by decide
 rw [e, e2] at h
 rw [h]
 omega
theorem VU (lo c k : Nat) (hlo : lo < 128 ^ k) (hc : c < 256) (hk : k ≤ 9) (h9 : k = 9 → c % 128 ≤ 1) :
  Go.bits .or .u64 (lo : Int) (shl .u64 (IntKind.u64.wrap (Go.bits .and .u8 (c : Int) 127)) (wrap64 (7 * (k : Int)))) = ((lo + (c % 128) * 128 ^ k : Nat) : Int) := by
 have hx : c % 128 < 128 := Nat.mod_lt _ (by decide)
 have hp : 128 ^ k ≤ 128 ^ 9 := Nat.pow_le_pow_right (by decide) hk
 have e9 : (128 : Nat) ^ 9 = 9223372036854775808 := by decide
 have hb : (c % 128) * 128 ^ k < 18446744073709551616 := by
  by_cases h : k = 9
  ·subst h
   have := h9 rfl
   rw [e9]
   omega
  ·have h8 : 128 ^ k ≤ 128 ^ 8 := Nat.pow_le_pow_right (by decide) (by omega)
   have e8 : (128 : Nat) ^ 8 = 72057594037927936 := by decide
   have : (c % 128) * 128 ^ k ≤ 127 * 128 ^ 8 := Nat.mul_le_mul (by omega) h8
   rw [e8] at this
   omega
 have hl : lo < 18446744073709551616 := by omega
 have e1 : wrap64 (7 * (k : Int)) = ((7 * k : Nat) : Int) := by rw [xL (by omega) (by omega)]; omega
 have e2 : shl .u64 (IntKind.u64.wrap ((c % 128 : Nat) : Int)) ((7 * k : Nat) : Int) = ((c % 128 * 128 ^ k : Nat) : Int) := by
  have w1 : IntKind.u64.wrap ((c % 128 : Nat) : Int) = ((c % 128 : Nat) : Int) := by rw [jF]; omega
  have hb64 : IntKind.u64.bits = 64 := rfl
  have m1 : min ((7 * k : Nat) : Int).toNat IntKind.u64.bits = 7 * k := by rw [hb64, Int.toNat_natCast]; omega
  have c1 : ((c % 128 : Nat) : Int) * 2 ^ (7 * k) = ((c % 128 * 128 ^ k : Nat) : Int) := by
   rw [J3]
   simp
  rw [shl, w1, m1, c1, jF]
  omega
 rw [zdz c hc, e1, e2, zdv lo _ hl hb]
 have h3 : lo ||| c % 128 * 128 ^ k = lo + c % 128 * 128 ^ k := by
  have := Nat.two_pow_add_eq_or_of_lt (i := 7 * k) (b := lo) (by rw [← J3]; exact hlo) (c % 128)
  rw [← J3, Nat.mul_comm] at this
  rw [Nat.or_comm, ← this, Nat.add_comm]
 rw [h3]
theorem zcZ (u : Nat) (h : u < 9223372036854775808) : Go.bits .xor .i64 (-1) (u : Int) = -(u : Int) - 1 := by
 have e : BitVec.ofInt 64 (-1) = BitVec.allOnes 64 := by decide
 have e2 : (BitVec.ofInt 64 (-1) ^^^ BitVec.ofInt 64 (u : Int)).toNat = 18446744073709551615 - u := by
  rw [e, BitVec.allOnes_xor, BitVec.toNat_not, BitVec.ofInt_natCast, BitVec.toNat_ofNat]
  omega
 show IntKind.i64.wrap ((BitVec.ofInt 64 (-1) ^^^ BitVec.ofInt 64 (u : Int)).toNat : Int) = _
 rw [e2, IntKind.wrap_i64]
 omega
theorem zcg (u : Nat) (hu : u < 18446744073709551616) : Go.bits .and .u64 (u : Int) 1 = ((u % 2 : Nat) : Int) := by
 have h := bits_mask .u64 64 (by decide) QX 1 (by decide) (u : Int) (by omega) (by omega)
 simpa using h
theorem zcG (v : Nat) (h : v % 2 = 1) : unz v = -((v / 2 : Nat) : Int) - 1 := by rw [unz, if_pos h]
theorem zcd (v : Nat) (h : ¬ v % 2 = 1) : unz v = ((v / 2 : Nat) : Int) := by rw [unz, if_neg h]
theorem zax (v : Nat) (h : v < 18446744073709551616) : wrap64 ((v : Int) / 2) = ((v / 2 : Nat) : Int) := by
 rw [xL (by omega) (by omega)]
 omega
theorem vj3 (a : Int) (h0 : 0 ≤ a) (h1 : a ≤ 140737488351232) (v i : Nat) (hv : v < 18446744073709551616) (hi : i ≤ 9) (k : Nat) : zm.j3 (k + 1) a (v : Int) (i : Int) false = some (unz v, a + (i : Int) + 1, 0) := by
 rw [zm.j3, if_neg (by decide), zcg v hv, zax v hv, xL (i := a + (i : Int)) (by omega) (by omega), xL (i := a + (i : Int) + 1) (by omega) (by omega)]
 by_cases h : v % 2 = 1
 ·rw [if_pos (by omega), zcZ _ (by omega), zcG v h]
 ·rw [if_neg (by omega), zcd v h]
theorem zdb (a v i : Int) (k : Nat) : zm.j3 (k + 1) a v i true = some (0, 0, 6) := by
 rw [zm.j3, if_pos rfl]
theorem Yx (a : Int) (lo k : Nat) (e : Int) (he : e ≠ 0) (r : Nat × Nat × Int) (hr : r = (0, 0, e)) : jU a lo k r = (0, 0, e) := by
 rw [hr, jU, if_neg he]
theorem Q3 (a : Int) (lo k c : Nat) : jU a lo k (c, 1, 0) = (unz (lo + c * 128 ^ k), a + (k : Int) + 1, 0) := by
 rw [jU, if_pos rfl, Nat.mul_comm c]
 rfl
theorem JI (lo c k : Nat) (hlo : lo < 128 ^ k) (hc : c < 128) : lo + c * 128 ^ k < 128 ^ (k + 1) := by
 have : c * 128 ^ k ≤ 127 * 128 ^ k := Nat.mul_le_mul_right _ (by omega)
 rw [Nat.pow_succ]
 omega
theorem QA (lo c k : Nat) (hlo : lo < 128 ^ k) (hc : c < 128) (hk : k ≤ 9) (h9 : k = 9 → c ≤ 1) : lo + c * 128 ^ k < 18446744073709551616 := by
 by_cases h : k = 9
 ·subst h
  have e9 : (128 : Nat) ^ 9 = 9223372036854775808 := by decide
  have := h9 rfl
  rw [e9] at hlo ⊢
  omega
 ·have h1 := JI lo c k hlo hc
  have h2 : 128 ^ (k + 1) ≤ 128 ^ 9 := Nat.pow_le_pow_right (by decide) (by omega)
  have e9 : (128 : Nat) ^ 9 = 9223372036854775808 := by decide
  omega
theorem vj2 (s : ByteArray) (p lo i c k : Nat) (hp : p ≤ 140737488351232) (hi : i ≤ 9) (hlo : lo < 128 ^ i) (hc : c < 256) (h9 : i = 9 → c ≤ 1) (l : List Nat)
  (go : 128 ≤ c → i ≠ 9 → zm.l0 (k + 1) s (p : Int) ((lo + (c - 128) * 128 ^ i : Nat) : Int) ((i + 1 : Nat) : Int) = some (jU (p : Int) (lo + (c - 128) * 128 ^ i) (i + 1) (yy l (i + 1)))) :
  zm.j2 (k + 2) s (p : Int) (lo : Int) (i : Int) (c : Int) false = some (jU (p : Int) lo i (yy (c :: l) i)) := by
 rw [zm.j2, if_neg (by decide), VU lo c i hlo hc hi (fun h => by have := h9 h; omega), xL (i := 7 * (i : Int)) (by omega) (by omega), if_pos (by omega)]
 by_cases h : 128 ≤ c
 ·have e : c % 128 = c - 128 := by omega
  have hi9 : i ≠ 9 := fun h' => by have := h9 h'; omega
  rw [if_pos (by omega), z9 (by omega) (by omega), e, zbn _ _ _ _ _ hi9 h]
  have := go h hi9
  rw [← this]
  rfl
 ·have e : c % 128 = c := by omega
  rw [if_neg (by omega), e]
  have hs : yy (c :: l) i = if c = 0 ∧ 0 < i then (0, 0, 6) else (c, 1, 0) := by
   rw [yy, if_neg (fun h' => by have := h9 h'.1; omega), if_neg h]
  by_cases h0 : c = 0
  ·rw [if_pos (by omega)]
   by_cases hi0 : 0 < i
   ·have hd : decide ((i : Int) > 0) = true := decide_eq_true (by omega)
    rw [hd, zdb, Yx _ _ _ 6 (by decide) _ (by rw [hs, if_pos ⟨h0, hi0⟩])]
   ·have hd : decide ((i : Int) > 0) = false := decide_eq_false (by omega)
    rw [hd, vj3 _ (by omega) (by omega) _ _ (QA lo c i hlo (by omega) hi h9) hi, hs, if_neg (fun h' => hi0 h'.2), Q3]
  ·rw [if_neg (by omega), vj3 _ (by omega) (by omega) _ _ (QA lo c i hlo (by omega) hi h9) hi, hs, if_neg (fun h' => h0 h'.1), Q3]
theorem vl0 (s : ByteArray) (hs : s.size ≤ 140737488351232) (p : Nat) (hp : p ≤ s.size) (e : Nat) : ∀ (i lo k : Nat), i + e = 9 → lo < 128 ^ i → 2 * e + 10 ≤ k → zm.l0 k s (p : Int) (lo : Int) (i : Int) = some (jU (p : Int) lo i (yy ((bl s).drop (p + i)) i)) := by
 induction e with
 | zero =>
  intro i lo k hi hlo hk
  obtain ⟨k, rfl⟩ : ∃ k', k = k' + 3 := ⟨k - 3, by omega⟩
  have hi9 : i = 9 := by omega
  rw [zm.l0, xL (i := (p : Int) + (i : Int)) (by omega) (by omega)]
  by_cases h : p + i < s.size
  ·rw [if_pos (by omega), if_pos (by omega), if_pos (by omega)]
   have hb : bt s ((p : Int) + (i : Int)) = _ := Xm s (p + i) h
   rw [hb, Yi s (p + i) h]
   have hc : (bl s)[p + i]'(by rw [z8]; exact h) < 256 := Qj s _ _
   generalize (bl s)[p + i]'(by rw [z8]; exact h) = c at hc ⊢
   by_cases h1 : 1 < c
   ·have hd : decide ((c : Int) > 1) = true := decide_eq_true (by omega)
    rw [hd, zm.j2, if_pos rfl, Yx _ _ _ 6 (by decide) _ (by rw [yy, if_pos ⟨hi9, h1⟩])]
   ·have hd : decide ((c : Int) > 1) = false := decide_eq_false (by omega)
    rw [hd]
    exact vj2 s p lo i c k (by omega) (by omega) hlo hc (fun _ => by omega) _ (fun h' _ => absurd h' (by omega))
  ·rw [if_neg (by omega), List.drop_eq_nil_of_le (by rw [z8]; omega), Yx _ _ _ 5 (by decide) _ (by rw [yy])]
 | succ e ih =>
  intro i lo k hi hlo hk
  obtain ⟨k, rfl⟩ : ∃ k', k = k' + 3 := ⟨k - 3, by omega⟩
  rw [zm.l0, xL (i := (p : Int) + (i : Int)) (by omega) (by omega)]
  by_cases h : p + i < s.size
  ·rw [if_pos (by omega), if_pos (by omega), if_neg (by omega)]
   have hb : bt s ((p : Int) + (i : Int)) = _ := Xm s (p + i) h
   rw [hb, Yi s (p + i) h]
   have hc : (bl s)[p + i]'(by rw [z8]; exact h) < 256 := Qj s _ _
   generalize (bl s)[p + i]'(by rw [z8]; exact h) = c at hc ⊢
   refine vj2 s p lo i c k (by omega) (by omega) hlo hc (fun h' => by omega) _ (fun h1 h2 => ?_)
   rw [ih (i + 1) _ (k + 1) (by omega) (JI lo (c - 128) i hlo (by omega)) (by omega)]
   rfl
  ·rw [if_neg (by omega), List.drop_eq_nil_of_le (by rw [z8]; omega), Yx _ _ _ 5 (by decide) _ (by rw [yy])]
theorem vQ (s : ByteArray) (hs : s.size ≤ 140737488351232) (a : Int) (k : Nat) (hk : 40 ≤ k) : zm.f k s a = some (yo s a) := by
 obtain ⟨k, rfl⟩ : ∃ k', k = k' + 1 := ⟨k - 1, by omega⟩
 unfold zm.f yo
 by_cases h0 : a < 0
 ·rw [if_pos h0, if_pos (Or.inl h0), zm.j0, if_pos rfl]
 ·rw [if_neg h0]
  by_cases h1 : (s.size : Int) < a
  ·have hd : decide (a > (s.size : Int)) = true := decide_eq_true h1
   rw [hd, if_pos (Or.inr h1), zm.j0, if_pos rfl]
  ·have hd : decide (a > (s.size : Int)) = false := decide_eq_false h1
   have hn : ¬ (a < 0 ∨ (s.size : Int) < a) := by omega
   rw [hd, if_neg hn, zm.j0, if_neg (by decide)]
   obtain ⟨p, rfl⟩ : ∃ p : Nat, a = (p : Int) := ⟨a.toNat, by omega⟩
   have := vl0 s hs p (by omega) 9 0 0 k (by omega) (by decide) (by omega)
   simpa using this
def yM.f (k : Nat) (a0 : ByteArray) (a1 : Int) (a2 : Int) : Option (Int × Int × Int) := (zm.f k a0 a1).bind fun bt101 => (if bt101.2.2 = 0 then (if bt101.1 < 0 then (some (0, 0, 6)) else (if bt101.1 > a2 then (some (0, 0, 4)) else (some (bt101.1, bt101.2.1, 0)))) else (some (0, 0, bt101.2.2)))
theorem yM.calls (k : Nat) (a0 : ByteArray) (a1 : Int) (a2 : Int) (r1 : Int) (r2 : Int) (r3 : Int) (w : World) (h : yM.f k a0 a1 a2 = some (r1, r2, r3)) :
  Calls Tryz.prog 155 #[.string a0, .int .i64 a1, .int .i64 a2] w fun e w' => e = .returned (.tuple #[.int .i64 r1, .int .i64 r2, .int .i64 r3]) ∧ zj w w' := by
 have H : ((zm.f k a0 a1).bind fun bt101 => (if bt101.2.2 = 0 then (if bt101.1 < 0 then (some (0, 0, 6)) else (if bt101.1 > a2 then (some (0, 0, 4)) else (some (bt101.1, bt101.2.1, 0)))) else (some (0, 0, bt101.2.2)))) = some (r1, r2, r3) := h
 clear h
 replace H := zdJ.mp H
 obtain ⟨⟨t101, t102, t103⟩, A40, H⟩ := H
 replace H : (if t103 = 0 then (if t101 < 0 then (some (0, 0, 6)) else (if t101 > a2 then (some (0, 0, 4)) else (some (t101, t102, 0)))) else (some (0, 0, t103))) = some (r1, r2, r3) := H
 have A4 := za.mk A40
 clear A40
 by_cases c5 : t103 = 0
 ·rw [if_pos c5] at H
  have c5b0 : (t103 == 0) = true := beq_iff_eq.mpr c5
  have c5b1 : (t103 != 0) = false := bne_eq_false_iff_eq.mpr c5
  clear c5
  by_cases c6 : t101 < 0
  ·rw [if_pos c6] at H
   have c6b0 : decide (t101 < 0) = true := decide_eq_true c6
   clear c6
   simp only [Option.some.injEq, Prod.mk.injEq] at H
   obtain ⟨rfl, rfl, rfl⟩ := H
   go_enter Tryz.func155, Tryz.ntmps155
   go_wp2_with (first | ((with_reducible refine zy (f := 75) rfl ?_); refine zU (some 15) rfl rfl Tryz.func75 (by kernel_rfl) rfl #[.string a0, .int .i64 a1] rfl (by (try simp only [zdI, List.map_cons, List.map_nil]); first | done | rfl | (simp only [List.length_drop, List.length_take]; rfl)) ?_; (with_reducible refine (zm.calls k a0 a1 t101 t102 t103 _ A4.out).mono ?_); rintro e w' ⟨rfl, ⟨nd, rfl⟩⟩; refine ⟨_, rfl, ?_⟩))
   go_ret3
   exact ⟨by first | rfl | (simp; done) | (simp [*]; done), by repeat (first | exact zj.refl _ | apply zj.step)⟩
  ·rw [if_neg c6] at H
   have c6b0 : decide (t101 < 0) = false := decide_eq_false c6
   clear c6
   by_cases c7 : t101 > a2
   ·rw [if_pos c7] at H
    have c7b0 : decide (a2 < t101) = true := decide_eq_true c7
    clear c7
    simp only [Option.some.injEq, Prod.mk.injEq] at H
    obtain ⟨rfl, rfl, rfl⟩ := H
    go_enter Tryz.func155, Tryz.ntmps155
    go_wp2_with (first | ((with_reducible refine zy (f := 75) rfl ?_); refine zU (some 15) rfl rfl Tryz.func75 (by kernel_rfl) rfl #[.string a0, .int .i64 a1] rfl (by (try simp only [zdI, List.map_cons, List.map_nil]); first | done | rfl | (simp only [List.length_drop, List.length_take]; rfl)) ?_; (with_reducible refine (zm.calls k a0 a1 t101 t102 t103 _ A4.out).mono ?_); rintro e w' ⟨rfl, ⟨nd, rfl⟩⟩; refine ⟨_, rfl, ?_⟩))
    go_ret3
    exact ⟨by first | rfl | (simp; done) | (simp [*]; done), by repeat (first | exact zj.refl _ | apply zj.step)⟩
   ·rw [if_neg c7] at H
    have c7b0 : decide (a2 < t101) = false := decide_eq_false c7
    clear c7
    simp only [Option.some.injEq, Prod.mk.injEq] at H
    obtain ⟨rfl, rfl, rfl⟩ := H
    go_enter Tryz.func155, Tryz.ntmps155
    go_wp2_with (first | ((with_reducible refine zy (f := 75) rfl ?_); refine zU (some 15) rfl rfl Tryz.func75 (by kernel_rfl) rfl #[.string a0, .int .i64 a1] rfl (by (try simp only [zdI, List.map_cons, List.map_nil]); first | done | rfl | (simp only [List.length_drop, List.length_take]; rfl)) ?_; (with_reducible refine (zm.calls k a0 a1 t101 t102 t103 _ A4.out).mono ?_); rintro e w' ⟨rfl, ⟨nd, rfl⟩⟩; refine ⟨_, rfl, ?_⟩))
    go_ret3
    exact ⟨by first | rfl | (simp; done) | (simp [*]; done), by repeat (first | exact zj.refl _ | apply zj.step)⟩
 ·rw [if_neg c5] at H
  have c5b0 : (t103 == 0) = false := beq_eq_false_iff_ne.mpr c5
  have c5b1 : (t103 != 0) = true := bne_iff_ne.mpr c5
  simp only [Option.some.injEq, Prod.mk.injEq] at H
  obtain ⟨rfl, rfl, rfl⟩ := H
  go_enter Tryz.func155, Tryz.ntmps155
  go_wp2_with (first | ((with_reducible refine zy (f := 75) rfl ?_); refine zU (some 15) rfl rfl Tryz.func75 (by kernel_rfl) rfl #[.string a0, .int .i64 a1] rfl (by (try simp only [zdI, List.map_cons, List.map_nil]); first | done | rfl | (simp only [List.length_drop, List.length_take]; rfl)) ?_; (with_reducible refine (zm.calls k a0 a1 t101 t102 t103 _ A4.out).mono ?_); rintro e w' ⟨rfl, ⟨nd, rfl⟩⟩; refine ⟨_, rfl, ?_⟩))
  go_ret3
  exact ⟨by first | rfl | (simp; done) | (simp [*]; done), by repeat (first | exact zj.refl _ | apply zj.step)⟩
def zv.l0 : Nat → ByteArray → Int → List Int → Int → Int → Option (List Int × Int × Int)
 | 0, _, _, _, _, _ => none
 | k + 1, x0, x10, x12, x26, x27 => if x27 < x26 then ((zm.f k x0 x10).bind fun bt480 => (if bt480.2.2 = 0 then (if x12.length < 17592186044416 then (zv.l0 k x0 bt480.2.1 (x12 ++ [bt480.1]) x26 (wrap64 (x27 + 1))) else (none)) else (some (([] : List Int), 0, bt480.2.2)))) else (some (x12, x10, 0))
def zv.f (k : Nat) (a0 : ByteArray) (a1 : Int)  : Option (List Int × Int × Int) := (yM.f k a0 a1 256).bind fun bt477 => (if bt477.2.2 = 0 then (zv.l0 k a0 bt477.2.1 ([] : List Int) bt477.1 0) else (some (([] : List Int), 0, bt477.2.2)))
theorem zv.calls (k : Nat) (a0 : ByteArray) (a1 : Int)  (r1 : List Int) (r2 : Int) (r3 : Int) (w : World) (h : zv.f k a0 a1 = some (r1, r2, r3)) :
  Calls Tryz.prog 181 #[.string a0, .int .i64 a1, .func (Fn.func 75) #[] #[]] w fun e w' => ∃ v0_ : Value, e = .returned (.tuple #[v0_, .int .i64 r2, .int .i64 r3]) ∧ Kd.R (Kd.int .i64) 3 w' w.heap.size (fun _ => True) v0_ r1 ∧ Below w.heap.size w w' := by
 have HB := za.mk (Below.refl w.heap.size w)
 have H : ((yM.f k a0 a1 256).bind fun bt477 => (if bt477.2.2 = 0 then (zv.l0 k a0 bt477.2.1 ([] : List Int) bt477.1 0) else (some (([] : List Int), 0, bt477.2.2)))) = some (r1, r2, r3) := h
 clear h
 replace H := zdJ.mp H
 obtain ⟨⟨t477, t478, t479⟩, A40, H⟩ := H
 replace H : (if t479 = 0 then (zv.l0 k a0 t478 ([] : List Int) t477 0) else (some (([] : List Int), 0, t479))) = some (r1, r2, r3) := H
 have A4 := za.mk A40
 clear A40
 by_cases c5 : t479 = 0
 ·rw [if_pos c5] at H
  have c5b0 : (t479 == 0) = true := beq_iff_eq.mpr c5
  have c5b1 : (t479 != 0) = false := bne_eq_false_iff_eq.mpr c5
  clear c5
  have H' := za.mk H
  clear H
  go_enter Tryz.func181, Tryz.ntmps181
  go_wp2_with (first | ((with_reducible refine zy (f := 155) rfl ?_); refine zU (some 19) rfl rfl Tryz.func155 (by kernel_rfl) rfl #[.string a0, .int .i64 a1, .int .i64 256] rfl (by (try simp only [zdI, List.map_cons, List.map_nil]); first | done | rfl | (simp only [List.length_drop, List.length_take]; rfl)) ?_; (with_reducible refine (yM.calls k a0 a1 256 t477 t478 t479 _ A4.out).mono ?_); rintro e w' ⟨rfl, ⟨nd, rfl⟩⟩; refine ⟨_, rfl, ?_⟩))
  go_loopg [10, 12, 27] k (fun kq v10 v12 v27 w' => ∃ (x10_1 : Int) (x12_1 : List Int) (x27_1 : Int), v10 = .int .i64 x10_1 ∧ v27 = .int .i64 x27_1 ∧ za (zv.l0 kq a0 x10_1 x12_1 t477 x27_1 = some (r1, r2, r3)) ∧ za (kq ≤ k) ∧ za (Kd.R (Kd.int .i64) 3 w' w.heap.size (fun _ => True) v12 x12_1) ∧ za (Below w.heap.size w w'))
  case atStart => exact ⟨(t478), (([] : List Int)), (0), (by first | rfl | (simp; done) | (simp [*]; done)), (by first | rfl | (simp; done) | (simp [*]; done)), H', ⟨Nat.le_refl _⟩, ⟨by first | exact Kd.R_nil _ _ _ _ _ | exact Kd.N_nil _ _ _ _ _ | exact Kd.V_nil _ _ _ _ _ | exact Kd.Q_nil _ _ _ _ _ | exact Kd.S_nil _ _ _ _ _⟩, ⟨by repeat (first | (with_reducible first | exact HB.out | apply zc | apply zb | apply zd) | exact HB.out)⟩⟩
  case round =>
   clear H'
   try clear c1
   try clear p2
   try clear c5
   try clear c5b0
   try clear c5b1
   obtain ⟨x10_1, x12_1, x27_1, rfl, rfl, HA, HK1, HO_12, HB⟩ := hrel
   cases gk with
   | zero => exact absurd HA.out (by simp [zv.l0])
   | succ k1 =>
    have H := HA.out
    clear HA
    simp only [zv.l0] at H
    by_cases c6 : x27_1 < t477
    ·rw [if_pos c6] at H
     have c6b0 : decide (x27_1 < t477) = true := decide_eq_true c6
     clear c6
     replace H := zdJ.mp H
     obtain ⟨⟨t480, t481, t482⟩, A70, H⟩ := H
     replace H : (if t482 = 0 then (if x12_1.length < 17592186044416 then (zv.l0 k1 a0 t481 (x12_1 ++ [t480]) t477 (wrap64 (x27_1 + 1))) else (none)) else (some (([] : List Int), 0, t482))) = some (r1, r2, r3) := H
     have A7 := za.mk A70
     clear A70
     by_cases c8 : t482 = 0
     ·rw [if_pos c8] at H
      have c8b0 : (t482 == 0) = true := beq_iff_eq.mpr c8
      have c8b1 : (t482 != 0) = false := bne_eq_false_iff_eq.mpr c8
      clear c8
      by_cases c9 : x12_1.length < 17592186044416
      ·rw [if_pos c9] at H
       have LMc9 := za.mk c9
       clear c9
       obtain ⟨y483, hy483⟩ : ∃ y_ : List Int, y_ = (x12_1 ++ [t480]) := ⟨_, rfl⟩
       replace H : (zv.l0 k1 a0 t481 y483 t477 (wrap64 (x27_1 + 1))) = some (r1, r2, r3) := by first | (rw [hy483]; with_reducible exact H) | (have H2_ := (Option.bind_some _ _).symm.trans H; rw [hy483]; with_reducible exact H2_) | (have H2_ := (Option.bind_some _ _).symm.trans H; with_reducible exact H2_) | with_reducible exact H | (rw [hy483]; exact H) | exact H
       have Ny483 := za.mk hy483
       clear hy483
       have H' := za.mk H
       clear H
       go_wp2_with (first | ((with_reducible refine zJ (N := 33) rfl ?_); refine jT (some 33) rfl rfl Tryz.func75 (by kernel_rfl) rfl #[.string a0, .int .i64 x10_1] rfl (by (try simp only [zdI, List.map_cons, List.map_nil]); first | done | rfl | (simp only [List.length_drop, List.length_take]; rfl)) ?_; (with_reducible refine (zm.calls k1 a0 x10_1 t480 t481 t482 _ A7.out).mono ?_); rintro e w' ⟨rfl, ⟨nd, rfl⟩⟩; refine ⟨_, rfl, ?_⟩) | ((with_reducible refine Zy (b := .append) (xs := #[.tmp 40, .tmp 42]) rfl ?_); at_builtin; refine Kd.R_append (Kd.int .i64) (w0 := w) w.heap.size rfl (.tmp 40) (.tmp 42) 50 3 (.int .i64 0) 8 rfl Tryz.underlying50 info3 rfl (by decide) (by omega) u12 x12_1 t480 [.int .i64 t480] (fun _ => True) (fun _ => False) rfl rfl ?aP (fun _ hk => hk.elim) ?aF ?aO ?aB ?aS ?aL ?_; (case aP => exact rfl); (case aB => exact (by repeat (first | (with_reducible first | exact HB.out | apply zc | apply zb | apply zd) | exact HB.out))); (case aF => exact (fun _ _ => trivial)); (case aO => exact (by (with_reducible repeat (first | apply Kd.R_alloc | apply Kd.R_drewN | apply Kd.R_drew)); exact HO_12.out)); (case aS => exact (zG (by repeat (first | (with_reducible first | exact HB.out | apply zc | apply zb | apply zd) | exact HB.out)))); (case aL => have := LMc9.out; omega); intro v484 w10 ho hb hg hat; rw [← Ny483.out] at ho; have n0_ := za.mk (hb); have n1_ := za.mk (ho); clear HB; clear HO_12; have HB := n0_; have HO485 := n1_; clear n0_ n1_; clear ho hb hg hat))
       go_roundg k1
       case measure => have := HK1.out; omega
       case rel => exact ⟨(t481), (y483), (wrap64 (x27_1 + 1)), (by first | rfl | (simp; done) | (simp [*]; done)), (by first | rfl | (simp; done) | (simp [*]; done)), H', ⟨by have := HK1.out; omega⟩, ⟨by (with_reducible repeat (first | apply Kd.R_alloc | apply Kd.R_drewN | apply Kd.R_drew)); exact HO485.out⟩, ⟨by repeat (first | (with_reducible first | exact HB.out | apply zc | apply zb | apply zd) | exact HB.out)⟩⟩
      ·rw [if_neg c9] at H
       exact absurd H (by simp)
     ·rw [if_neg c8] at H
      have c8b0 : (t482 == 0) = false := beq_eq_false_iff_ne.mpr c8
      have c8b1 : (t482 != 0) = true := bne_iff_ne.mpr c8
      simp only [Option.some.injEq, Prod.mk.injEq] at H
      obtain ⟨rfl, rfl, rfl⟩ := H
      go_wp2_with (first | ((with_reducible refine zJ (N := 33) rfl ?_); refine jT (some 33) rfl rfl Tryz.func75 (by kernel_rfl) rfl #[.string a0, .int .i64 x10_1] rfl (by (try simp only [zdI, List.map_cons, List.map_nil]); first | done | rfl | (simp only [List.length_drop, List.length_take]; rfl)) ?_; (with_reducible refine (zm.calls k1 a0 x10_1 t480 t481 t482 _ A7.out).mono ?_); rintro e w' ⟨rfl, ⟨nd, rfl⟩⟩; refine ⟨_, rfl, ?_⟩))
      go_ret3
      exact ⟨_, by first | rfl | (simp [zn, zo] <;> rfl) | (simp [*, zn, zo] <;> rfl), by first | exact Kd.R_nil _ _ _ _ _ | exact Kd.N_nil _ _ _ _ _ | exact Kd.V_nil _ _ _ _ _ | exact Kd.Q_nil _ _ _ _ _ | exact Kd.S_nil _ _ _ _ _, by repeat (first | (with_reducible first | exact HB.out | apply zc | apply zb | apply zd) | exact HB.out)⟩
    ·rw [if_neg c6] at H
     have c6b0 : decide (x27_1 < t477) = false := decide_eq_false c6
     clear c6
     simp only [Option.some.injEq, Prod.mk.injEq] at H
     obtain ⟨rfl, rfl, rfl⟩ := H
     go_wp2
     go_ret3
     exact ⟨_, by first | rfl | (simp [zn, zo] <;> rfl) | (simp [*, zn, zo] <;> rfl), by (with_reducible repeat (first | apply Kd.R_alloc | apply Kd.R_drewN | apply Kd.R_drew)); exact HO_12.out, by repeat (first | (with_reducible first | exact HB.out | apply zc | apply zb | apply zd) | exact HB.out)⟩
 ·rw [if_neg c5] at H
  have c5b0 : (t479 == 0) = false := beq_eq_false_iff_ne.mpr c5
  have c5b1 : (t479 != 0) = true := bne_iff_ne.mpr c5
  simp only [Option.some.injEq, Prod.mk.injEq] at H
  obtain ⟨rfl, rfl, rfl⟩ := H
  go_enter Tryz.func181, Tryz.ntmps181
  go_wp2_with (first | ((with_reducible refine zy (f := 155) rfl ?_); refine zU (some 19) rfl rfl Tryz.func155 (by kernel_rfl) rfl #[.string a0, .int .i64 a1, .int .i64 256] rfl (by (try simp only [zdI, List.map_cons, List.map_nil]); first | done | rfl | (simp only [List.length_drop, List.length_take]; rfl)) ?_; (with_reducible refine (yM.calls k a0 a1 256 t477 t478 t479 _ A4.out).mono ?_); rintro e w' ⟨rfl, ⟨nd, rfl⟩⟩; refine ⟨_, rfl, ?_⟩))
  go_ret3
  exact ⟨_, by first | rfl | (simp [zn, zo] <;> rfl) | (simp [*, zn, zo] <;> rfl), by first | exact Kd.R_nil _ _ _ _ _ | exact Kd.N_nil _ _ _ _ _ | exact Kd.V_nil _ _ _ _ _ | exact Kd.Q_nil _ _ _ _ _ | exact Kd.S_nil _ _ _ _ _, by repeat (first | (with_reducible first | exact HB.out | apply zc | apply zb | apply zd) | exact HB.out)⟩
def xq.f (k : Nat) (a0 : ByteArray) (a1 : Int) : Option (List Int × Int × Int) := (zv.f k a0 a1).bind fun bt486 => (some (bt486.1, bt486.2.1, bt486.2.2))
theorem xq.calls (k : Nat) (a0 : ByteArray) (a1 : Int) (r1 : List Int) (r2 : Int) (r3 : Int) (w : World) (h : xq.f k a0 a1 = some (r1, r2, r3)) :
  Calls Tryz.prog 174 #[.string a0, .int .i64 a1] w fun e w' => ∃ v0_ : Value, e = .returned (.tuple #[v0_, .int .i64 r2, .int .i64 r3]) ∧ Kd.R (Kd.int .i64) 3 w' w.heap.size (fun _ => True) v0_ r1 ∧ Below w.heap.size w w' := by
 have HB := za.mk (Below.refl w.heap.size w)
 have H : ((zv.f k a0 a1).bind fun bt486 => (some (bt486.1, bt486.2.1, bt486.2.2))) = some (r1, r2, r3) := h
 clear h
 replace H := zdJ.mp H
 obtain ⟨⟨t486, t487, t488⟩, A30, H⟩ := H
 replace H : (some (t486, t487, t488)) = some (r1, r2, r3) := H
 have A3 := za.mk A30
 clear A30
 simp only [Option.some.injEq, Prod.mk.injEq] at H
 obtain ⟨rfl, rfl, rfl⟩ := H
 go_enter Tryz.func174, Tryz.ntmps174
 go_wp2_with (first | ((with_reducible refine zy (f := 181) rfl ?_); refine zU (some 9) rfl rfl Tryz.func181 (by kernel_rfl) rfl #[.string a0, .int .i64 a1, .func (Fn.func 75) #[] #[]] rfl (by (try simp only [zdI, List.map_cons, List.map_nil]); first | done | rfl | (simp only [List.length_drop, List.length_take]; rfl)) ?_; (with_reducible refine (zv.calls k a0 a1 t486 t487 t488 _ A3.out).mono ?_); rintro e w4 ⟨v489, rfl, ho0, hb⟩; refine ⟨_, rfl, ?_⟩; have n0_ := za.mk (Kd.R_lower ho0 (zG (by repeat (first | (with_reducible first | exact HB.out | apply zc | apply zb | apply zd) | exact HB.out)))); have n1_ := za.mk (zp (by repeat (first | (with_reducible first | exact HB.out | apply zc | apply zb | apply zd) | exact HB.out)) hb); clear HB; have HO490 := n0_; have HB := n1_; clear n0_ n1_; (try clear hb); (try clear hb2); (try clear hk); (try clear hi); (try clear ho0)))
 go_ret3
 exact ⟨_, by first | rfl | (simp [zn, zo] <;> rfl) | (simp [*, zn, zo] <;> rfl), by (with_reducible repeat (first | apply Kd.R_alloc | apply Kd.R_drewN | apply Kd.R_drew)); exact HO490.out, by repeat (first | (with_reducible first | exact HB.out | apply zc | apply zb | apply zd) | exact HB.out)⟩
def xA.f (k : Nat) (a0 : ByteArray) (a1 : Int) : Option (ByteArray × Int × Int) := (yM.f k a0 a1 4096).bind fun bt104 => (if bt104.2.2 = 0 then (if bt104.1 > (wrap64 ((a0.size : Int) - bt104.2.1)) then (some ((⟨#[]⟩ : ByteArray), 0, 5)) else (if 0 ≤ bt104.2.1 then (if bt104.2.1 ≤ (wrap64 (bt104.2.1 + bt104.1)) then (if (wrap64 (bt104.2.1 + bt104.1)) ≤ (a0.size : Int) then (some (a0.extract (bt104.2.1 : Int).toNat ((wrap64 (bt104.2.1 + bt104.1)) : Int).toNat, wrap64 (bt104.2.1 + bt104.1), 0)) else (none)) else (none)) else (none))) else (some ((⟨#[]⟩ : ByteArray), 0, bt104.2.2)))
theorem xA.calls (k : Nat) (a0 : ByteArray) (a1 : Int) (r1 : ByteArray) (r2 : Int) (r3 : Int) (w : World) (h : xA.f k a0 a1 = some (r1, r2, r3)) :
  Calls Tryz.prog 118 #[.string a0, .int .i64 a1] w fun e w' => e = .returned (.tuple #[.string r1, .int .i64 r2, .int .i64 r3]) ∧ zj w w' := by
 have H : ((yM.f k a0 a1 4096).bind fun bt104 => (if bt104.2.2 = 0 then (if bt104.1 > (wrap64 ((a0.size : Int) - bt104.2.1)) then (some ((⟨#[]⟩ : ByteArray), 0, 5)) else (if 0 ≤ bt104.2.1 then (if bt104.2.1 ≤ (wrap64 (bt104.2.1 + bt104.1)) then (if (wrap64 (bt104.2.1 + bt104.1)) ≤ (a0.size : Int) then (some (a0.extract (bt104.2.1 : Int).toNat ((wrap64 (bt104.2.1 + bt104.1)) : Int).toNat, wrap64 (bt104.2.1 + bt104.1), 0)) else (none)) else (none)) else (none))) else (some ((⟨#[]⟩ : ByteArray), 0, bt104.2.2)))) = some (r1, r2, r3) := h
 clear h
 replace H := zdJ.mp H
 obtain ⟨⟨t104, t105, t106⟩, A30, H⟩ := H
 replace H : (if t106 = 0 then (if t104 > (wrap64 ((a0.size : Int) - t105)) then (some ((⟨#[]⟩ : ByteArray), 0, 5)) else (if 0 ≤ t105 then (if t105 ≤ (wrap64 (t105 + t104)) then (if (wrap64 (t105 + t104)) ≤ (a0.size : Int) then (some (a0.extract (t105 : Int).toNat ((wrap64 (t105 + t104)) : Int).toNat, wrap64 (t105 + t104), 0)) else (none)) else (none)) else (none))) else (some ((⟨#[]⟩ : ByteArray), 0, t106))) = some (r1, r2, r3) := H
 have A3 := za.mk A30
 clear A30
 by_cases c4 : t106 = 0
 ·rw [if_pos c4] at H
  have c4b0 : (t106 == 0) = true := beq_iff_eq.mpr c4
  have c4b1 : (t106 != 0) = false := bne_eq_false_iff_eq.mpr c4
  clear c4
  by_cases c5 : t104 > (wrap64 ((a0.size : Int) - t105))
  ·rw [if_pos c5] at H
   have c5b0 : decide ((wrap64 ((a0.size : Int) - t105)) < t104) = true := decide_eq_true c5
   clear c5
   simp only [Option.some.injEq, Prod.mk.injEq] at H
   obtain ⟨rfl, rfl, rfl⟩ := H
   go_enter Tryz.func118, Tryz.ntmps118
   go_wp2_with (first | ((with_reducible refine zy (f := 155) rfl ?_); refine zU (some 13) rfl rfl Tryz.func155 (by kernel_rfl) rfl #[.string a0, .int .i64 a1, .int .i64 4096] rfl (by (try simp only [zdI, List.map_cons, List.map_nil]); first | done | rfl | (simp only [List.length_drop, List.length_take]; rfl)) ?_; (with_reducible refine (yM.calls k a0 a1 4096 t104 t105 t106 _ A3.out).mono ?_); rintro e w' ⟨rfl, ⟨nd, rfl⟩⟩; refine ⟨_, rfl, ?_⟩))
   go_ret3
   exact ⟨by first | rfl | (simp; done) | (simp [*]; done), by repeat (first | exact zj.refl _ | apply zj.step)⟩
  ·rw [if_neg c5] at H
   have c5b0 : decide ((wrap64 ((a0.size : Int) - t105)) < t104) = false := decide_eq_false c5
   clear c5
   by_cases c6 : 0 ≤ t105
   ·rw [if_pos c6] at H
    have c6b0 := eq_true c6
    have c6b1 : decide (0 ≤ t105) = true := decide_eq_true c6
    clear c6
    by_cases c7 : t105 ≤ (wrap64 (t105 + t104))
    ·rw [if_pos c7] at H
     have c7b0 := eq_true c7
     have c7b1 : decide (t105 ≤ (wrap64 (t105 + t104))) = true := decide_eq_true c7
     by_cases c8 : (wrap64 (t105 + t104)) ≤ (a0.size : Int)
     ·rw [if_pos c8] at H
      have c8b0 := eq_true c8
      have c8b1 : decide ((wrap64 (t105 + t104)) ≤ (a0.size : Int)) = true := decide_eq_true c8
      simp only [Option.some.injEq, Prod.mk.injEq] at H
      obtain ⟨rfl, rfl, rfl⟩ := H
      go_enter Tryz.func118, Tryz.ntmps118
      go_wp2_with (first | ((with_reducible refine zy (f := 155) rfl ?_); refine zU (some 13) rfl rfl Tryz.func155 (by kernel_rfl) rfl #[.string a0, .int .i64 a1, .int .i64 4096] rfl (by (try simp only [zdI, List.map_cons, List.map_nil]); first | done | rfl | (simp only [List.length_drop, List.length_take]; rfl)) ?_; (with_reducible refine (yM.calls k a0 a1 4096 t104 t105 t106 _ A3.out).mono ?_); rintro e w' ⟨rfl, ⟨nd, rfl⟩⟩; refine ⟨_, rfl, ?_⟩))
      go_ret3
      exact ⟨by first | rfl | (simp; done) | (simp [*]; done), by repeat (first | exact zj.refl _ | apply zj.step)⟩
     ·rw [if_neg c8] at H
      exact absurd H (by simp)
    ·rw [if_neg c7] at H
     exact absurd H (by simp)
   ·rw [if_neg c6] at H
    exact absurd H (by simp)
 ·rw [if_neg c4] at H
  have c4b0 : (t106 == 0) = false := beq_eq_false_iff_ne.mpr c4
  have c4b1 : (t106 != 0) = true := bne_iff_ne.mpr c4
  simp only [Option.some.injEq, Prod.mk.injEq] at H
  obtain ⟨rfl, rfl, rfl⟩ := H
  go_enter Tryz.func118, Tryz.ntmps118
  go_wp2_with (first | ((with_reducible refine zy (f := 155) rfl ?_); refine zU (some 13) rfl rfl Tryz.func155 (by kernel_rfl) rfl #[.string a0, .int .i64 a1, .int .i64 4096] rfl (by (try simp only [zdI, List.map_cons, List.map_nil]); first | done | rfl | (simp only [List.length_drop, List.length_take]; rfl)) ?_; (with_reducible refine (yM.calls k a0 a1 4096 t104 t105 t106 _ A3.out).mono ?_); rintro e w' ⟨rfl, ⟨nd, rfl⟩⟩; refine ⟨_, rfl, ?_⟩))
  go_ret3
  exact ⟨by first | rfl | (simp; done) | (simp [*]; done), by repeat (first | exact zj.refl _ | apply zj.step)⟩
theorem zdk (l : List Nat) : ∀ k, (yy l k).2.2 = 0 → 1 ≤ (yy l k).2.1 ∧ (yy l k).2.1 ≤ l.length := by
 induction l with
 | nil => intro k h; rw [yy] at h; exact absurd h (by decide)
 | cons c l ih =>
  intro k
  rw [yy]
  split
  ·intro h; exact absurd h (by decide)
  ·split
   ·split
    ·rename_i h3
     intro h
     have := ih (k + 1) h3
     simp only [List.length_cons]
     omega
    ·rename_i h3
     intro h
     exact absurd h h3
   ·split
    ·intro h; exact absurd h (by decide)
    ·intro h
     simp only [List.length_cons]
     omega
theorem zca (l : List Nat) : ∀ k, k ≤ 9 → (∀ c ∈ l, c < 256) → (yy l k).2.2 = 0 → 128 ^ k * (yy l k).1 < 18446744073709551616 ∧ (yy l k).2.1 + k ≤ 10 := by
 have e9 : (128 : Nat) ^ 9 = 9223372036854775808 := by decide
 induction l with
 | nil => intro k _ _ h; rw [yy] at h; exact absurd h (by decide)
 | cons c l ih =>
  intro k hk hl
  have hc := hl c (List.mem_cons_self ..)
  rw [yy]
  split
  ·intro h; exact absurd h (by decide)
  ·rename_i h1
   split
   ·rename_i h2
    split
    ·rename_i h3
     intro h
     have hk9 : k ≠ 9 := fun h' => h1 ⟨h', by omega⟩
     obtain ⟨i1, i2⟩ := ih (k + 1) (by omega) (fun x hx => hl x (List.mem_cons_of_mem _ hx)) h3
     generalize yy l (k + 1) = r at i1 i2 ⊢
     have e : 128 ^ k * (c - 128 + 128 * r.1) = 128 ^ k * (c - 128) + 128 ^ (k + 1) * r.1 := by
      rw [Nat.mul_add, Nat.pow_succ, Nat.mul_assoc]
     refine ⟨?_, by show r.2.1 + 1 + k ≤ 10; omega⟩
     show 128 ^ k * (c - 128 + 128 * r.1) < _
     rw [e]
     have hm : 128 ^ (k + 1) ∣ 18446744073709551616 - 128 ^ (k + 1) * r.1 := by
      have hd : 128 ^ (k + 1) ∣ 18446744073709551616 := by
       have : (18446744073709551616 : Nat) = 128 ^ 9 * 2 := by decide
       rw [this]
       exact Nat.dvd_trans (Nat.pow_dvd_pow _ (by omega)) (Nat.dvd_mul_right _ _)
      exact Nat.dvd_sub hd (Nat.dvd_mul_right _ _)
     have hle := Nat.le_of_dvd (by omega) hm
     have hx : 128 ^ k * (c - 128) < 128 ^ (k + 1) := by
      rw [Nat.pow_succ]
      exact Nat.mul_lt_mul_of_pos_left (by omega) (Nat.pow_pos (by decide))
     omega
    ·rename_i h3
     intro h
     exact absurd h h3
   ·rename_i h2
    split
    ·intro h; exact absurd h (by decide)
    ·intro _
     have := QA 0 c k (Nat.pow_pos (by decide)) (by omega) hk (fun h' => by have := fun h'' => h1 ⟨h', h''⟩; omega)
     rw [Nat.zero_add, Nat.mul_comm] at this
     exact ⟨this, by show 1 + k ≤ 10; omega⟩
theorem XJ (s : ByteArray) (a : Int) (h : (yo s a).2.2 = 0) : 0 ≤ a ∧ a < (yo s a).2.1 ∧ (yo s a).2.1 ≤ (s.size : Int) ∧ (yy ((bl s).drop a.toNat) 0).2.2 = 0
  ∧ yo s a = (unz (yy ((bl s).drop a.toNat) 0).1, a + ((yy ((bl s).drop a.toNat) 0).2.1 : Int), 0) := by
 unfold yo at h ⊢
 by_cases h0 : a < 0 ∨ (s.size : Int) < a
 ·rw [if_pos h0] at h; exact absurd h (by decide)
 ·rw [if_neg h0] at h ⊢
  unfold jU at h ⊢
  by_cases h1 : (yy ((bl s).drop a.toNat) 0).2.2 = 0
  ·have h2 := zdk _ _ h1
   rw [List.length_drop, z8] at h2
   rw [if_pos h1]
   refine ⟨by omega, ?_, ?_, h1, ?_⟩
   ·show a < a + ((0 : Nat) : Int) + _
    omega
   ·show a + ((0 : Nat) : Int) + _ ≤ _
    omega
   ·have e1 : 0 + 128 ^ 0 * (yy ((bl s).drop a.toNat) 0).1 = (yy ((bl s).drop a.toNat) 0).1 := by simp
    have e2 : a + ((0 : Nat) : Int) = a := by omega
    rw [e1, e2]
  ·rw [if_neg h1] at h
   exact absurd h h1
theorem zc8 (u : Nat) (h : u < 18446744073709551616) : -9223372036854775808 ≤ unz u ∧ unz u ≤ 9223372036854775807 := by
 unfold unz
 split <;> omega
theorem za4 (s : ByteArray) (a : Int) (h : (yo s a).2.2 = 0) : -9223372036854775808 ≤ (yo s a).1 ∧ (yo s a).1 ≤ 9223372036854775807 := by
 obtain ⟨_, _, _, h1, e⟩ := XJ s a h
 rw [e]
 have := (zca _ 0 (by omega) (fun c hc => ZN s c (List.mem_of_mem_drop hc)) h1).1
 exact zc8 _ (by simpa using this)
def yk (s : ByteArray) (a m : Int) : Int × Int × Int := if (yo s a).2.2 = 0 then (if (yo s a).1 < 0 then (0, 0, 6) else (if (yo s a).1 > m then (0, 0, 4) else ((yo s a).1, (yo s a).2.1, 0))) else (0, 0, (yo s a).2.2)
theorem jg (s : ByteArray) (a m : Int) (hs : s.size ≤ 140737488351232) (hm : 0 ≤ m) (h : (yk s a m).2.2 = 0) : 0 ≤ (yk s a m).1 ∧ (yk s a m).1 ≤ m ∧ 0 ≤ a ∧ a < (yk s a m).2.1 ∧ (yk s a m).2.1 ≤ (s.size : Int) := by
 unfold yk at h ⊢
 by_cases h0 : (yo s a).2.2 = 0
 ·have hr := XJ s a h0
  rw [if_pos h0] at h ⊢
  by_cases h1 : (yo s a).1 < 0
  ·rw [if_pos h1] at h; exact absurd h (by decide)
  ·rw [if_neg h1] at h ⊢
   by_cases h2 : (yo s a).1 > m
   ·rw [if_pos h2] at h; exact absurd h (by decide)
   ·rw [if_neg h2]
    exact ⟨Int.not_lt.mp h1, Int.not_lt.mp h2, hr.1, hr.2.1, hr.2.2.1⟩
 ·rw [if_neg h0] at h
  exact absurd h h0
theorem X1 (s : ByteArray) (hs : s.size ≤ 140737488351232) (a m : Int) (k : Nat) (hk : 40 ≤ k) : yM.f k s a m = some (yk s a m) := by
 unfold yM.f yk
 rw [zD (vQ s hs a k hk)]
 split
 ·split
  ·rfl
  ·split <;> rfl
 ·rfl
def jY (s : ByteArray) (a : Int) : ByteArray × Int × Int := if (yk s a 4096).2.2 = 0 then (if (s.size : Int) < (yk s a 4096).2.1 + (yk s a 4096).1 then (⟨#[]⟩, 0, 5) else (s.extract (yk s a 4096).2.1.toNat ((yk s a 4096).2.1 + (yk s a 4096).1).toNat, (yk s a 4096).2.1 + (yk s a 4096).1, 0)) else (⟨#[]⟩, 0, (yk s a 4096).2.2)
theorem YI (s : ByteArray) (hs : s.size ≤ 140737488351232) (a : Int) (k : Nat) (hk : 50 ≤ k) : xA.f k s a = some (jY s a) := by
 unfold xA.f jY
 rw [zD (X1 s hs a 4096 k (by omega))]
 by_cases h : (yk s a 4096).2.2 = 0
 ·obtain ⟨h1, h2, h3, h4, h5⟩ := jg s a 4096 hs (by omega) h
  rw [if_pos h, if_pos h]
  generalize yk s a 4096 = c at h1 h2 h4 h5 ⊢
  rw [xL (i := (s.size : Int) - c.2.1) (by omega) (by omega), xL (i := c.2.1 + c.1) (by omega) (by omega)]
  by_cases h6 : (s.size : Int) < c.2.1 + c.1
  ·rw [if_pos (by omega), if_pos h6]
  ·rw [if_neg (by omega), if_neg h6, if_pos (by omega), if_pos (by omega), if_pos (by omega)]
 ·rw [if_neg h, if_neg h]
def xU {α : Type} (R : Int → α × Int × Int) : Nat → Int → List α → List α × Int × Int
 | 0, a, acc => (acc, a, 0)
 | d + 1, a, acc => if (R a).2.2 = 0 then xU R d (R a).2.1 (acc ++ [(R a).1]) else ([], 0, (R a).2.2)
def xN {α : Type} (R : Int → α × Int × Int) (s : ByteArray) (a : Int) : List α × Int × Int := if (yk s a 256).2.2 = 0 then xU R (yk s a 256).1.toNat (yk s a 256).2.1 [] else ([], 0, (yk s a 256).2.2)
theorem za8 {α : Type} (R : Int → α × Int × Int) (d : Nat) : ∀ (a : Int) (acc : List α), (xU R d a acc).1.length ≤ acc.length + d := by
 induction d with
 | zero => intro a acc; exact Nat.le_refl _
 | succ d ih =>
  intro a acc
  rw [xU]
  split
  ·have := ih (R a).2.1 (acc ++ [(R a).1])
   rw [zdM, List.length_singleton] at this
   omega
  ·exact Nat.zero_le _
theorem QY {α : Type} (R : Int → α × Int × Int) (s : ByteArray) (hs : s.size ≤ 140737488351232) (a : Int) : (xN R s a).1.length ≤ 256 := by
 unfold xN
 split
 ·rename_i h
  obtain ⟨h1, h2, _⟩ := jg s a 256 hs (by omega) h
  have := za8 R (yk s a 256).1.toNat (yk s a 256).2.1 []
  simp only [List.length_nil] at this
  omega
 ·exact Nat.zero_le _
theorem rnums (s : ByteArray) (hs : s.size ≤ 140737488351232) (n : Nat) (hn : n ≤ 256) (d : Nat) : ∀ (k i : Nat) (a : Int) (acc : List Int), i + d = n → acc.length = i → d + 60 ≤ k → zv.l0 k s a acc (n : Int) (i : Int) = some (xU (yo s) d a acc) := by
 induction d with
 | zero =>
  intro k i a acc hi hl hk
  obtain ⟨k, rfl⟩ : ∃ k', k = k' + 1 := ⟨k - 1, by omega⟩
  rw [zv.l0, if_neg (by omega), xU]
 | succ d ih =>
  intro k i a acc hi hl hk
  obtain ⟨k, rfl⟩ : ∃ k', k = k' + 1 := ⟨k - 1, by omega⟩
  rw [zv.l0, if_pos (by omega), zD (vQ s hs a k (by omega)), xU]
  by_cases h : (yo s a).2.2 = 0
  ·rw [if_pos h, if_pos h, if_pos (by omega), z9 (by omega) (by omega)]
   exact ih k (i + 1) _ _ (by omega) (by simp [hl]) (by omega)
  ·rw [if_neg h, if_neg h]
theorem zai (s : ByteArray) (hs : s.size ≤ 140737488351232) (a : Int) (k : Nat) (hk : 400 ≤ k) : zv.f k s a = some (xN (yo s) s a) := by
 unfold zv.f xN
 rw [zD (X1 s hs a 256 k (by omega))]
 by_cases h : (yk s a 256).2.2 = 0
 ·obtain ⟨h1, h2, h3, h4, h5⟩ := jg s a 256 hs (by omega) h
  rw [if_pos h, if_pos h]
  have e : (yk s a 256).1 = (((yk s a 256).1.toNat : Nat) : Int) := by omega
  have := rnums s hs (yk s a 256).1.toNat (by omega) (yk s a 256).1.toNat k 0 (yk s a 256).2.1 [] (by omega) rfl (by omega)
  rw [← this]
  first | (rw [← e]; rfl) | rfl
 ·rw [if_neg h, if_neg h]
theorem YG (s : ByteArray) (hs : s.size ≤ 140737488351232) (a : Int) (k : Nat) (hk : 400 ≤ k) : xq.f k s a = some (xN (yo s) s a) := by
 unfold xq.f
 rw [zD (zai s hs a k hk)]
theorem zdh (n : Int) : unz (zig n) = n := by
 unfold unz zig
 split <;> split <;> omega
theorem zc7 (u : Nat) : zig (unz u) = u := by
 unfold unz zig
 split <;> split <;> omega
theorem zaF (f : Nat) : ∀ (k u : Nat) (rest : List Nat), f + k = 10 → 1 ≤ f → 128 ^ k * u < 18446744073709551616 → (0 < k → 0 < u) → yy (xJ f u ++ rest) k = (u, (xJ f u).length, 0) := by
 induction f with
 | zero => intro k u rest _ h; exact absurd h (by decide)
 | succ f ih =>
  intro k u rest hf _ hu h0
  have e9 : (128 : Nat) ^ 9 = 9223372036854775808 := by decide
  by_cases h : u < 128
  ·rw [vP f u h, List.singleton_append, yy, if_neg ?_, if_neg (by omega), if_neg (by omega)]
   ·rfl
   ·rintro ⟨hk, h1⟩
    subst hk
    rw [e9] at hu
    omega
  ·have hk9 : k ≠ 9 := by
    rintro rfl
    rw [e9] at hu
    omega
   have hk10 : k ≤ 8 := by
    have : k ≠ 10 := by
     rintro rfl
     omega
    omega
   have hm : 128 ^ (k + 1) * (u / 128) ≤ 128 ^ k * u := by
    rw [Nat.pow_succ, Nat.mul_assoc]
    exact Nat.mul_le_mul_left _ (by omega)
   have hi := ih (k + 1) (u / 128) rest (by omega) (by omega) (by omega) (fun _ => by omega)
   rw [vS f u (by omega), List.cons_append, yy, if_neg (fun h' => hk9 h'.1), if_pos (by omega), hi]
   have e : u % 128 + 128 - 128 + 128 * (u / 128) = u := by omega
   rw [if_pos rfl, List.length_cons]
   show (u % 128 + 128 - 128 + 128 * (u / 128), (xJ f (u / 128)).length + 1, (0 : Int)) = _
   rw [e]
theorem zaT (l : List Nat) : ∀ (f k : Nat), f + k = 10 → k ≤ 9 → (∀ c ∈ l, c < 256) → (yy l k).2.2 = 0 → xJ f (yy l k).1 = l.take (yy l k).2.1 ∧ (0 < k → 0 < (yy l k).1) := by
 induction l with
 | nil => intro f k _ _ _ h; rw [yy] at h; exact absurd h (by decide)
 | cons c l ih =>
  intro f k hf hk hl
  have hc := hl c (List.mem_cons_self ..)
  obtain ⟨f, rfl⟩ : ∃ f', f = f' + 1 := ⟨f - 1, by omega⟩
  rw [yy]
  split
  ·intro h; exact absurd h (by decide)
  ·rename_i h1
   split
   ·rename_i h2
    split
    ·rename_i h3
     intro _
     have hk9 : k ≠ 9 := fun h' => h1 ⟨h', by omega⟩
     obtain ⟨i1, i2⟩ := ih f (k + 1) (by omega) (by omega) (fun x hx => hl x (List.mem_cons_of_mem _ hx)) h3
     have i3 := i2 (by omega)
     generalize yy l (k + 1) = r at i1 i3 ⊢
     show xJ (f + 1) (c - 128 + 128 * r.1) = List.take (r.2.1 + 1) (c :: l) ∧ (0 < k → 0 < c - 128 + 128 * r.1)
     have e1 : (c - 128 + 128 * r.1) % 128 + 128 = c := by omega
     have e2 : (c - 128 + 128 * r.1) / 128 = r.1 := by omega
     rw [vS f _ (by omega), e1, e2, i1, List.take_succ_cons]
     exact ⟨rfl, fun _ => by omega⟩
    ·rename_i h3
     intro h
     exact absurd h h3
   ·rename_i h2
    split
    ·intro h; exact absurd h (by decide)
    ·rename_i h3
     intro _
     show xJ (f + 1) c = List.take 1 (c :: l) ∧ (0 < k → 0 < c)
     rw [vP f c (by omega)]
     exact ⟨rfl, fun h => by have := fun h' => h3 ⟨h', h⟩; omega⟩
theorem zcQ (f : Nat) : ∀ u, ∀ c ∈ xJ f u, c < 256 := by
 induction f with
 | zero => intro u c h; simp [xJ] at h
 | succ f ih =>
  intro u c h
  by_cases hu : u < 128
  ·rw [vP f u hu, List.mem_singleton] at h
   omega
  ·rw [vS f u (by omega), List.mem_cons] at h
   rcases h with rfl | h
   ·omega
   ·exact ih _ c h
theorem zbD (l : List Nat) : (qT l).map Int.toNat = l := by
 rw [qT, List.map_map]
 have : (Int.toNat ∘ fun (n : Nat) => (n : Int)) = id := by
  funext n
  rfl
 rw [this, List.map_id]
theorem Vv (n : Int) : bl (zW n) = xJ 10 (zig n) := by
 rw [zW, QG _ (fun x hx => ?_), zbD]
 obtain ⟨m, hm, rfl⟩ := List.mem_map.mp hx
 have := zcQ _ _ m hm
 omega
def At (s : ByteArray) (p : Nat) (x : ByteArray) : Prop := p ≤ s.size ∧ ∃ rest, (bl s).drop p = bl x ++ rest
theorem At.left {s : ByteArray} {p : Nat} {x y : ByteArray} (h : At s p (x ++ y)) : At s p x := by
 obtain ⟨h0, r, h⟩ := h
 exact ⟨h0, bl y ++ r, by rw [h, xZ, List.append_assoc]⟩
theorem At.le {s : ByteArray} {p : Nat} {x : ByteArray} (h : At s p x) : p + x.size ≤ s.size := by
 obtain ⟨h0, r, h⟩ := h
 have := congrArg List.length h
 rw [List.length_drop, zdM, z8, z8] at this
 omega
theorem At.right {s : ByteArray} {p : Nat} {x y : ByteArray} (h : At s p (x ++ y)) : At s (p + x.size) y := by
 have h1 := h.left.le
 obtain ⟨h0, r, h⟩ := h
 refine ⟨h1, r, ?_⟩
 rw [← List.drop_drop, h, xZ, List.append_assoc, ← z8 x, List.drop_left]
theorem At.cut {s : ByteArray} {p : Nat} {x : ByteArray} (h : At s p x) : s.extract p (p + x.size) = x := by
 obtain ⟨h0, r, h⟩ := h
 apply qo
 rw [yK, List.drop_take, h, Nat.add_sub_cancel_left, ← z8 x, List.take_left]
theorem zK (x y : ByteArray) : (x ++ y).size = x.size + y.size := ByteArray.size_append
theorem Xd (s : ByteArray) (n : Int) (h0 : -9223372036854775808 ≤ n) (h1 : n ≤ 9223372036854775807) (p : Nat) (h : At s p (zW n)) : yo s (p : Int) = (n, ((p + (zW n).size : Nat) : Int), 0) := by
 obtain ⟨hp, r, h⟩ := h
 unfold yo
 rw [if_neg (by omega), Int.toNat_natCast, h, Vv, zaF 10 0 (zig n) r (by omega) (by omega) (by have := zbi n h0 h1; omega) (by omega), jU, if_pos rfl]
 have e1 : 0 + 128 ^ 0 * zig n = zig n := by omega
 have e2 : (p : Int) + ((0 : Nat) : Int) + ((xJ 10 (zig n)).length : Int) = ((p + (zW n).size : Nat) : Int) := by
  rw [zbM]
  omega
 show (unz (0 + 128 ^ 0 * zig n), (p : Int) + ((0 : Nat) : Int) + ((xJ 10 (zig n)).length : Int), (0 : Int)) = _
 rw [e1, e2, zdh]
theorem X5 (s : ByteArray) (n : Nat) (m : Int) (hm : (n : Int) ≤ m) (hn : n ≤ 4096) (p : Nat) (h : At s p (zW (n : Int))) : yk s (p : Int) m = ((n : Int), ((p + (zW (n : Int)).size : Nat) : Int), 0) := by
 unfold yk
 rw [Xd s n (by omega) (by omega) p h, if_pos rfl]
 show (if (n : Int) < 0 then ((0 : Int), (0 : Int), (6 : Int)) else if (n : Int) > m then (0, 0, 4) else ((n : Int), ((p + (zW (n : Int)).size : Nat) : Int), 0)) = _
 rw [if_neg (by omega), if_neg (by omega)]
theorem V4 (s t : ByteArray) (ht : t.size ≤ 4096) (p : Nat) (h : At s p (zW (t.size : Int) ++ t)) : jY s (p : Int) = (t, ((p + (zW (t.size : Int) ++ t).size : Nat) : Int), 0) := by
 unfold jY
 have hr := h.right
 have hc := hr.cut
 have hle := hr.le
 rw [X5 s t.size 4096 (by omega) (by omega) p h.left, if_pos rfl, zK]
 show (if (s.size : Int) < ((p + (zW (t.size : Int)).size : Nat) : Int) + (t.size : Int) then ((⟨#[]⟩ : ByteArray), (0 : Int), (5 : Int)) else (s.extract ((p + (zW (t.size : Int)).size : Nat) : Int).toNat (((p + (zW (t.size : Int)).size : Nat) : Int) + (t.size : Int)).toNat, ((p + (zW (t.size : Int)).size : Nat) : Int) + (t.size : Int), 0)) = _
 generalize (zW (t.size : Int)).size = m at hc hle ⊢
 have e : (((p + m : Nat) : Int) + (t.size : Int)) = ((p + m + t.size : Nat) : Int) := by omega
 have e2 : p + (m + t.size) = p + m + t.size := by omega
 rw [if_neg (by omega), e, Int.toNat_natCast, Int.toNat_natCast, hc, e2]
def qG {α : Type} (T : α → ByteArray × Int) : List α → ByteArray
 | [] => ⟨#[]⟩
 | x :: l => (T x).1 ++ qG T l
theorem yJ (a b c : ByteArray) : a ++ b ++ c = a ++ (b ++ c) := qo (by simp only [xZ, List.append_assoc])
theorem qJ (a : ByteArray) : a ++ (⟨#[]⟩ : ByteArray) = a := qo (by rw [xZ]; exact List.append_nil _)
theorem XK {α : Type} (T : α → ByteArray × Int) (l : List α) : ∀ acc, (qC T l acc).2 = 0 → (∀ x ∈ l, (T x).2 = 0) ∧ (qC T l acc).1 = acc ++ qG T l := by
 induction l with
 | nil => intro acc _; exact ⟨fun x hx => absurd hx (List.not_mem_nil), by rw [qC, qG, qJ]⟩
 | cons x l ih =>
  intro acc
  rw [qC]
  by_cases h : (T x).2 = 0
  ·rw [if_pos h]
   intro h2
   obtain ⟨i1, i2⟩ := ih _ h2
   refine ⟨fun y hy => ?_, by rw [i2, qG, yJ]⟩
   rcases List.mem_cons.mp hy with rfl | hy
   ·exact h
   ·exact i1 y hy
  ·rw [if_neg h]
   intro h2
   exact absurd h2 h
theorem ZP {α : Type} (T : α → ByteArray × Int) (l : List α) : ∀ acc, (∀ x ∈ l, (T x).2 = 0) → qC T l acc = (acc ++ qG T l, 0) := by
 induction l with
 | nil => intro acc _; rw [qC, qG, qJ]
 | cons x l ih =>
  intro acc h
  rw [qC, if_pos (h x (List.mem_cons_self ..)), ih _ (fun y hy => h y (List.mem_cons_of_mem _ hy)), qG, yJ]
theorem VP {α : Type} (s : ByteArray) (R : Int → α × Int × Int) (T : α → ByteArray × Int) (l : List α) : ∀ (p : Nat) (acc : List α), (∀ x ∈ l, ∀ q : Nat, At s q (T x).1 → R (q : Int) = (x, ((q + (T x).1.size : Nat) : Int), 0)) → At s p (qG T l) →
  xU R l.length (p : Int) acc = (acc ++ l, ((p + (qG T l).size : Nat) : Int), 0) := by
 induction l with
 | nil => intro p acc _ _; rw [List.append_nil]; rfl
 | cons x l ih =>
  intro p acc h hat
  rw [qG] at hat
  have h1 := h x (List.mem_cons_self ..) p hat.left
  rw [List.length_cons, xU, h1, if_pos rfl]
  have := ih (p + (T x).1.size) (acc ++ [x]) (fun y hy => h y (List.mem_cons_of_mem _ hy)) hat.right
  rw [qG, zK, ← Nat.add_assoc]
  rw [List.append_assoc] at this
  exact this
theorem zae {α : Type} (s : ByteArray) (R : Int → α × Int × Int) (T : α → ByteArray × Int) (l : List α) (hl : l.length ≤ 256) (p : Nat) (h : ∀ x ∈ l, ∀ q : Nat, At s q (T x).1 → R (q : Int) = (x, ((q + (T x).1.size : Nat) : Int), 0)) (hat : At s p (zW (l.length : Int) ++ qG T l)) :
  xN R s (p : Int) = (l, ((p + (zW (l.length : Int) ++ qG T l).size : Nat) : Int), 0) := by
 unfold xN
 rw [X5 s l.length 256 (by omega) (by omega) p hat.left, if_pos rfl]
 have := VP s R T l (p + (zW (l.length : Int)).size) [] h hat.right
 rw [zK, ← Nat.add_assoc]
 exact this
theorem J1 (s : ByteArray) (l : List Int) (hw : ∀ n ∈ l, (Lit.int .i64 n).wf = true) (p : Nat) (h : (yS l).2 = 0) (hat : At s p (yS l).1) : xN (yo s) s (p : Int) = (l, ((p + (yS l).1.size : Nat) : Int), 0) := by
 unfold yS at h hat ⊢
 by_cases hl : 256 < l.length
 ·rw [if_pos hl] at h; exact absurd h (by decide)
 ·rw [if_neg hl] at h hat ⊢
  have h2 := (XK _ l _ h).2
  rw [h2] at hat ⊢
  refine zae s (yo s) (fun n => (zW n, 0)) l (by omega) p (fun x hx q hq => ?_) hat
  have hb := YU (hw x hx)
  exact Xd s x hb.1 hb.2 q hq
theorem Yp (s : ByteArray) (a b c : Nat) (h1 : a ≤ b) (h2 : b ≤ c) (h3 : c ≤ s.size) : s.extract a b ++ s.extract b c = s.extract a c := by
 apply qo
 rw [xZ, yK, yK, yK]
 have hl : (bl s).length = s.size := z8 s
 generalize bl s = l at hl ⊢
 have e1 : l.take b = (l.take c).take b := by rw [List.take_take, Nat.min_eq_left h2]
 rw [e1]
 have hm : (l.take c).length = c := by rw [List.length_take]; omega
 generalize l.take c = m at hm ⊢
 have e2 : m = m.take b ++ m.drop b := (List.take_append_drop b m).symm
 have e3 : m.drop a = (m.take b ++ m.drop b).drop a := by rw [List.take_append_drop]
 rw [e3, List.drop_append_of_le_length (by rw [List.length_take]; omega)]
def Xe {α : Type} (s : ByteArray) (a : Int) (r : α × Int × Int) : Prop := 0 ≤ a ∧ a < r.2.1 ∧ r.2.1 ≤ (s.size : Int)
theorem YD (s : ByteArray) (a : Int) (h : (yo s a).2.2 = 0) : Xe s a (yo s a) ∧ zW (yo s a).1 = s.extract a.toNat (yo s a).2.1.toNat := by
 obtain ⟨h1, h2, h3, h4, h5⟩ := XJ s a h
 refine ⟨⟨h1, h2, h3⟩, ?_⟩
 have hd := (zaT _ 10 0 (by omega) (by omega) (fun c hc => ZN s c (List.mem_of_mem_drop hc)) h4).1
 apply qo
 rw [h5, Vv, yK, List.drop_take]
 show xJ 10 (zig (unz (yy ((bl s).drop a.toNat) 0).1)) = List.take ((a + ((yy ((bl s).drop a.toNat) 0).2.1 : Int)).toNat - a.toNat) ((bl s).drop a.toNat)
 rw [zc7, hd]
 congr 1
 omega
theorem Xs (s : ByteArray) (hs : s.size ≤ 140737488351232) (a m : Int) (hm : 0 ≤ m) (h : (yk s a m).2.2 = 0) : zW (yk s a m).1 = s.extract a.toNat (yk s a m).2.1.toNat := by
 have h0 := jg s a m hs hm h
 unfold yk at h ⊢
 by_cases h1 : (yo s a).2.2 = 0
 ·rw [if_pos h1] at h ⊢
  by_cases h2 : (yo s a).1 < 0
  ·rw [if_pos h2] at h; exact absurd h (by decide)
  ·rw [if_neg h2] at h ⊢
   by_cases h3 : (yo s a).1 > m
   ·rw [if_pos h3] at h; exact absurd h (by decide)
   ·rw [if_neg h3]
    exact (YD s a h1).2
 ·rw [if_neg h1] at h
  exact absurd h h1
theorem VS (s : ByteArray) (hs : s.size ≤ 140737488351232) (a : Int) (h : (jY s a).2.2 = 0) : Xe s a (jY s a) ∧ qB (jY s a).1 = (s.extract a.toNat (jY s a).2.1.toNat, 0) := by
 unfold jY at h ⊢
 by_cases h1 : (yk s a 4096).2.2 = 0
 ·obtain ⟨c1, c2, c3, c4, c5⟩ := jg s a 4096 hs (by omega) h1
  have hc := Xs s hs a 4096 (by omega) h1
  rw [if_pos h1] at h ⊢
  generalize yk s a 4096 = c at c1 c2 c4 c5 hc h ⊢
  by_cases h2 : (s.size : Int) < c.2.1 + c.1
  ·rw [if_pos h2] at h; exact absurd h (by decide)
  ·rw [if_neg h2]
   refine ⟨⟨c3, ?_, ?_⟩, ?_⟩
   ·show a < c.2.1 + c.1
    omega
   ·show c.2.1 + c.1 ≤ _
    omega
   ·show qB (s.extract c.2.1.toNat (c.2.1 + c.1).toNat) = (s.extract a.toNat (c.2.1 + c.1).toNat, 0)
    have hz : (s.extract c.2.1.toNat (c.2.1 + c.1).toNat).size = c.1.toNat := by
     rw [← z8, yK, List.length_drop, List.length_take, z8]
     omega
    have e : ((c.1.toNat : Nat) : Int) = c.1 := by omega
    rw [qB, hz, if_neg (by omega), e, hc, Yp s _ _ _ (by omega) (by omega) (by omega)]
 ·rw [if_neg h1] at h
  exact absurd h h1
theorem zam {α : Type} (s : ByteArray) (hs : s.size ≤ 140737488351232) (R : Int → α × Int × Int) (T : α → ByteArray × Int) (hR : ∀ a, (R a).2.2 = 0 → Xe s a (R a) ∧ T (R a).1 = (s.extract a.toNat (R a).2.1.toNat, 0)) (d : Nat) : ∀ (a : Int) (acc : List α), 0 ≤ a → a ≤ (s.size : Int) → (xU R d a acc).2.2 = 0 →
  a ≤ (xU R d a acc).2.1 ∧ (xU R d a acc).2.1 ≤ (s.size : Int) ∧ ∃ l, (xU R d a acc).1 = acc ++ l ∧ l.length = d ∧ (∀ x ∈ l, (T x).2 = 0) ∧ qG T l = s.extract a.toNat (xU R d a acc).2.1.toNat := by
 induction d with
 | zero =>
  intro a acc h0 h1 _
  refine ⟨Int.le_refl _, h1, [], (List.append_nil _).symm, rfl, fun x hx => absurd hx (List.not_mem_nil), ?_⟩
  apply qo
  show bl ⟨#[]⟩ = bl (s.extract a.toNat a.toNat)
  rw [yK, List.drop_eq_nil_of_le (by rw [List.length_take]; omega)]
  rfl
 | succ d ih =>
  intro a acc h0 h1
  rw [xU]
  by_cases h : (R a).2.2 = 0
  ·rw [if_pos h]
   intro h2
   obtain ⟨⟨r1, r2, r3⟩, r4⟩ := hR a h
   obtain ⟨i1, i2, l, i3, i4, i5, i6⟩ := ih (R a).2.1 (acc ++ [(R a).1]) (by omega) r3 h2
   generalize xU R d (R a).2.1 (acc ++ [(R a).1]) = r at i1 i2 i3 i6 ⊢
   refine ⟨by omega, i2, (R a).1 :: l, by rw [i3, List.append_assoc]; rfl, by rw [List.length_cons, i4], ?_, ?_⟩
   ·intro x hx
    rcases List.mem_cons.mp hx with rfl | hx
    ·rw [r4]
    ·exact i5 x hx
   ·rw [qG, r4, i6]
    exact Yp s _ _ _ (by omega) (by omega) (by omega)
  ·rw [if_neg h]
   intro h2
   exact absurd h2 h
theorem zaf {α : Type} (s : ByteArray) (hs : s.size ≤ 140737488351232) (R : Int → α × Int × Int) (T : α → ByteArray × Int) (hR : ∀ a, (R a).2.2 = 0 → Xe s a (R a) ∧ T (R a).1 = (s.extract a.toNat (R a).2.1.toNat, 0)) (a : Int) (h : (xN R s a).2.2 = 0) :
  Xe s a (xN R s a) ∧ (xN R s a).1.length ≤ 256 ∧ qC T (xN R s a).1 (zW ((xN R s a).1.length : Int)) = (s.extract a.toNat (xN R s a).2.1.toNat, 0) := by
 have hlen := QY R s hs a
 unfold xN at h hlen ⊢
 by_cases h1 : (yk s a 256).2.2 = 0
 ·obtain ⟨c1, c2, c3, c4, c5⟩ := jg s a 256 hs (by omega) h1
  have hc := Xs s hs a 256 (by omega) h1
  rw [if_pos h1] at h hlen ⊢
  generalize yk s a 256 = c at c1 c2 c4 c5 hc h hlen ⊢
  obtain ⟨i1, i2, l, i3, i4, i5, i6⟩ := zam s hs R T hR c.1.toNat c.2.1 [] (by omega) (by omega) h
  generalize xU R c.1.toNat c.2.1 [] = r at i1 i2 i3 i6 hlen ⊢
  have e : ((l.length : Nat) : Int) = c.1 := by rw [i4]; omega
  rw [List.nil_append] at i3
  refine ⟨⟨c3, by omega, i2⟩, hlen, ?_⟩
  rw [i3, ZP T l _ i5, e, hc, i6, Yp s _ _ _ (by omega) (by omega) (by omega)]
 ·rw [if_neg h1] at h
  exact absurd h h1
theorem JG (s : ByteArray) (hs : s.size ≤ 140737488351232) (a : Int) (h : (xN (yo s) s a).2.2 = 0) : Xe s a (xN (yo s) s a) ∧ yS (xN (yo s) s a).1 = (s.extract a.toNat (xN (yo s) s a).2.1.toNat, 0) := by
 obtain ⟨h1, h2, h3⟩ := zaf s hs (yo s) (fun n => (zW n, 0)) (fun b hb => by have := YD s b hb; exact ⟨this.1, by rw [this.2]⟩) a h
 refine ⟨h1, ?_⟩
 rw [yS, if_neg (by omega), h3]
theorem zaw {α : Type} (Q : α → Prop) (R : Int → α × Int × Int) (hR : ∀ a, (R a).2.2 = 0 → Q (R a).1) (d : Nat) : ∀ (a : Int) (acc : List α), (∀ x ∈ acc, Q x) → ∀ x ∈ (xU R d a acc).1, Q x := by
 induction d with
 | zero => intro a acc h; exact h
 | succ d ih =>
  intro a acc h
  rw [xU]
  by_cases h1 : (R a).2.2 = 0
  ·rw [if_pos h1]
   refine ih _ _ (fun x hx => ?_)
   rcases List.mem_append.mp hx with hx | hx
   ·exact h x hx
   ·rw [List.mem_singleton.mp hx]
    exact hR a h1
  ·rw [if_neg h1]
   intro x hx
   exact absurd hx (List.not_mem_nil)
theorem zaK {α : Type} (Q : α → Prop) (R : Int → α × Int × Int) (hR : ∀ a, (R a).2.2 = 0 → Q (R a).1) (s : ByteArray) (a : Int) : ∀ x ∈ (xN R s a).1, Q x := by
 unfold xN
 split
 ·exact zaw Q R hR _ _ [] (fun x hx => absurd hx (List.not_mem_nil))
 ·intro x hx
  exact absurd hx (List.not_mem_nil)
theorem Z6 (n : Int) (h0 : -9223372036854775808 ≤ n) (h1 : n ≤ 9223372036854775807) : (Lit.int .i64 n).wf = true := by
 have m1 : IntKind.i64.min = -9223372036854775808 := rfl
 have m2 : IntKind.i64.max = 9223372036854775807 := rfl
 simp only [Lit.wf, Bool.and_eq_true, decide_eq_true_eq]
 omega
theorem YO {α : Type} (T : α → ByteArray × Int) (M : Nat) (l : List α) : (∀ x ∈ l, (T x).1.size ≤ M) → (qG T l).size ≤ M * l.length := by
 induction l with
 | nil => intro _; exact Nat.zero_le _
 | cons x l ih =>
  intro h
  have h1 := h x (List.mem_cons_self ..)
  have h2 := ih (fun y hy => h y (List.mem_cons_of_mem _ hy))
  rw [qG, zK, List.length_cons, Nat.mul_succ]
  omega
theorem Ji (l : List Int) : (yS l).2 = 0 → (yS l).1.size ≤ 10000000 := by
 unfold yS
 by_cases hl : 256 < l.length
 ·rw [if_pos hl]; intro h; exact absurd h (by decide)
 ·rw [if_neg hl]
  intro h
  rw [(XK _ l _ h).2, zK]
  have h1 := zN (l.length : Int)
  have h2 := YO (fun n => (zW n, (0 : Int))) 10 l (fun x _ => zN x)
  omega
theorem Vi (l : List ByteArray) : (jt l).2 = 0 → (jt l).1.size ≤ 10000000 := by
 unfold jt
 by_cases hl : 256 < l.length
 ·rw [if_pos hl]; intro h; exact absurd h (by decide)
 ·rw [if_neg hl]
  intro h
  rw [(XK _ l _ h).2, zK]
  have h1 := zN (l.length : Int)
  have h2 := YO qB 4106 l (fun x _ => jk x)
  omega
theorem y9 (a b : ByteArray) : bytesOf (a ++ b) = bytesOf a ++ bytesOf b := by
 rw [j7, j7, j7, xZ, List.map_append]
theorem vM : bytesOf (⟨#[]⟩ : ByteArray) = [] := rfl
theorem Ya (a : ByteArray) : (⟨#[]⟩ : ByteArray) ++ a = a := qo (by rw [xZ]; rfl)
def ql {α : Type} (B : α → ByteArray) (l : List α) : ByteArray := qG (fun x => (B x, (0 : Int))) l
def yh {α : Type} (B : α → ByteArray) (l : List α) : ByteArray := zW (l.length : Int) ++ ql B l
def xv (l : List Int) : ByteArray := ql zW l
def qE (s : ByteArray) : ByteArray := zW (s.size : Int) ++ s
theorem qw {α : Type} (B : α → ByteArray) : ql B [] = ⟨#[]⟩ := rfl
theorem yE {α : Type} (B : α → ByteArray) (x : α) (l : List α) : ql B (x :: l) = B x ++ ql B l := rfl
theorem jN {α : Type} (B : α → ByteArray) (M : Nat) (l : List α) (h : ∀ x ∈ l, (B x).size ≤ M) : (ql B l).size ≤ M * l.length := YO _ M l h
theorem V3 (l : List Int) : (xv l).size ≤ 10 * l.length := jN zW 10 l (fun x _ => zN x)
theorem ZV (a b : Int) : xv [a, b] = zW a ++ zW b := by
 unfold xv
 rw [yE, yE, qw, qJ]
theorem qL (a : Int) : xv [a] = zW a := by
 unfold xv
 rw [yE, qw, qJ]
theorem jz (l : List Int) : (yh zW l).size ≤ 10 + 10 * l.length := by
 have h1 := zN (l.length : Int)
 have h2 := jN zW 10 l (fun x _ => zN x)
 unfold yh
 rw [zK]
 omega
theorem qQ (s : ByteArray) : (qE s).size ≤ 10 + s.size := by
 have := zN (s.size : Int)
 unfold qE
 rw [zK]
 omega
theorem vI (l : List Int) : (yS l).1.size ≤ 10000000 := by
 by_cases h : 256 < l.length
 ·unfold yS
  rw [if_pos h]
  exact Nat.zero_le _
 ·exact Ji l (by
   unfold yS
   rw [if_neg h, ZP _ _ _ (fun _ _ => rfl)])
theorem qI (l : List Int) (h : l.length ≤ 256) : yS l = (yh zW l, 0) := by
 unfold yS
 rw [if_neg (by omega), ZP _ _ _ (fun _ _ => rfl)]
 rfl
theorem q7 (s : ByteArray) (h : s.size ≤ 4096) : qB s = (qE s, 0) := by
 unfold qB
 rw [if_neg (by omega)]
 rfl
theorem zbc (l : List Int) (h : ∀ n ∈ l, (Lit.int .i64 n).wf = true) (hl : l.length ≤ 1048576) (d : Nat) : ∀ (k i : Nat) (acc : ByteArray), i + d = l.length → d + 1 ≤ k → acc.size + 10 * d < 140737488355328 →
  zu.l0 k (bytesOf acc) l (l.length : Int) (i : Int) = some (bytesOf (acc ++ xv (l.drop i))) := by
 induction d with
 | zero =>
  intro k i acc hi hk ha
  obtain ⟨k, rfl⟩ : ∃ m, k = m + 1 := ⟨k - 1, by omega⟩
  rw [zu.l0, if_neg (by omega), List.drop_of_length_le (by omega), xv, qw, qJ]
 | succ d ih =>
  intro k i acc hi hk ha
  obtain ⟨k, rfl⟩ : ∃ m, k = m + 1 := ⟨k - 1, by omega⟩
  have hlt : i < l.length := by omega
  have hb := YU (h _ (List.getElem_mem hlt))
  have hs := zN l[i]
  rw [zu.l0, if_pos (by omega), if_pos (by omega), if_pos (by omega), Jk l i hlt, zD (qZ _ hb.1 hb.2), if_pos (by rw [yj]; omega), z9 (by omega) (by omega), List.drop_eq_getElem_cons hlt, ← y9]
  have := ih k (i + 1) (acc ++ zW l[i]) (by omega) (by omega) (by rw [zK]; omega)
  rw [yJ] at this
  exact this
theorem Zs (l : List Int) (h : ∀ n ∈ l, (Lit.int .i64 n).wf = true) (hl : l.length ≤ 1048576) (acc : ByteArray) (ha : acc.size + 10 * l.length < 140737488355328) (k : Nat) (hk : l.length + 1 ≤ k) :
  zu.f k (bytesOf acc) l = some (bytesOf (acc ++ xv l)) := by
 unfold zu.f
 exact zbc l h hl l.length k 0 acc (by omega) hk ha
theorem YP {a b : Int} (ha : (Lit.int .i64 a).wf = true) (hb : (Lit.int .i64 b).wf = true) : ∀ n ∈ [a, b], (Lit.int .i64 n).wf = true := by
 intro n hn
 rcases List.mem_cons.1 hn with rfl | hn
 ·exact ha
 ·rcases List.mem_cons.1 hn with rfl | hn
  ·exact hb
  ·cases hn
theorem Y7 {a : Int} (ha : (Lit.int .i64 a).wf = true) : ∀ n ∈ [a], (Lit.int .i64 n).wf = true := by
 intro n hn
 rcases List.mem_cons.1 hn with rfl | hn
 ·exact ha
 ·cases hn
theorem Yz (a b : Int) (ha : (Lit.int .i64 a).wf = true) (hb : (Lit.int .i64 b).wf = true) (acc : ByteArray) (hacc : acc.size + 20 < 140737488355328) (k : Nat) (hk : 3 ≤ k) :
  zu.f k (bytesOf acc) [a, b] = some (bytesOf (acc ++ (zW a ++ zW b))) := by
 rw [Zs [a, b] (YP ha hb) (by simp) acc (by simp; omega) k (by simp; omega), ZV]
theorem jn (a : Int) (ha : (Lit.int .i64 a).wf = true) (acc : ByteArray) (hacc : acc.size + 20 < 140737488355328) (k : Nat) (hk : 3 ≤ k) :
  zu.f k (bytesOf acc) [a] = some (bytesOf (acc ++ zW a)) := by
 rw [Zs [a] (Y7 ha) (by simp) acc (by simp; omega) k (by simp; omega), qL]
theorem Z2 (s : ByteArray) (hs : s.size ≤ 140737488351232) (acc : ByteArray) (ha : acc.size + 4106 < 140737488355328) : xM.f (bytesOf acc) s = some (bytesOf (acc ++ (qB s).1)) := by
 have := jk s
 unfold xM.f
 rw [zD (Y0 s hs), if_pos (by rw [yj]; omega), ← y9]
theorem jr (l : List Int) (h : ∀ n ∈ l, (Lit.int .i64 n).wf = true) (acc : ByteArray) (ha : acc.size + 10000000 < 140737488355328) : yn.f (bytesOf acc) l = some (bytesOf (acc ++ (yS l).1)) := by
 have := vI l
 unfold yn.f
 rw [zD (JR l h), if_pos (by rw [yj]; omega), ← y9]
def xS (b : Bool) (y : ByteArray) : ByteArray × Int := if b = true then (y, 0) else (⟨#[]⟩, 2)
theorem vT (b : Bool) (y : ByteArray) : yl.f b (bytesOf y) = some (xS b y) := by
 unfold yl.f xS
 cases b with
 | true => rw [if_pos rfl, if_pos rfl, yU]
 | false => rw [if_neg (by decide), if_neg (by decide)]
theorem Zl {α : Type} (T : List Int → α → Option (List Int)) (B : α → ByteArray) (M : Nat) (l : List α) : ∀ acc : ByteArray, (∀ x ∈ l, (B x).size ≤ M) → (∀ x ∈ l, ∀ a : ByteArray, a.size + M < 140737488355328 → T (bytesOf a) x = some (bytesOf (a ++ B x))) → acc.size + M * l.length < 140737488355328 →
  xF T l (bytesOf acc) = some (bytesOf (acc ++ ql B l)) := by
 induction l with
 | nil => intro acc _ _ _; rw [qw, qJ]; rfl
 | cons x l ih =>
  intro acc hM hT ha
  rw [List.length_cons, Nat.mul_succ] at ha
  have h1 := hM x List.mem_cons_self
  rw [xF, zD (hT x List.mem_cons_self acc (by omega)), ih (acc ++ B x) (fun y hy => hM y (List.mem_cons_of_mem _ hy)) (fun y hy => hT y (List.mem_cons_of_mem _ hy)) (by rw [zK]; omega), yE, yJ]
theorem zdC (l : List S108) (i : Nat) (h : i < l.length) : yw l (i : Int) = l[i] := by simp [yw, h]
theorem zdq (l : List S77) (i : Nat) (h : i < l.length) : yi l (i : Int) = l[i] := by simp [yi, h]
theorem zbm (l : List S108) (hl : l.length ≤ 9223372036854775807) (M : Nat) (hz : ∀ x ∈ l, x.f1.length + 1 ≤ M ∧ x.f1.length ≤ 9223372036854775807) (d : Nat) : ∀ (k i : Nat), i + d = l.length → d + M + 1 ≤ k → zR.l0 k l l (l.length : Int) (i : Int) = some ((l.drop i).all evB && decide ((l.length : Int) ≤ 3)) := by
 induction d with
 | zero =>
  intro k i hi hk
  obtain ⟨k, rfl⟩ : ∃ k', k = k' + 1 := ⟨k - 1, by omega⟩
  rw [zR.l0, if_neg (by omega), List.drop_eq_nil_of_le (by omega)]
  rfl
 | succ d ih =>
  intro k i hi hk
  obtain ⟨k, rfl⟩ : ∃ k', k = k' + 1 := ⟨k - 1, by omega⟩
  have hs := ih k (i + 1) (by omega) (by omega)
  rw [zR.l0, if_pos (by omega), if_pos (by omega), if_pos (by omega), zdC l i (by omega), zD (Qf _ _ (hz _ (List.getElem_mem _)).2 k (by have := (hz _ (List.getElem_mem (h := by omega) : l[i] ∈ l)).1; omega)), (List.drop_eq_getElem_cons (by omega) : l.drop i = l[i] :: l.drop (i + 1)), List.all_cons, z9 (by omega) (by omega)]
  show (if evB l[i] = true then _ else _) = _
  cases hb : evB l[i] with
  | true => rw [if_pos rfl, Bool.true_and]; exact hs
  | false => rw [if_neg (by decide), Bool.false_and, Bool.false_and]
theorem ZZ (l : List S108) (hl : l.length ≤ 9223372036854775807) (M : Nat) (hz : ∀ x ∈ l, x.f1.length + 1 ≤ M ∧ x.f1.length ≤ 9223372036854775807) (k : Nat) (hk : l.length + (M + 1) ≤ k) : zR.f k l = some (Zd l) := by
 unfold zR.f Zd
 exact zbm l hl M hz l.length k 0 (by omega) hk
def Xc (l : List ByteArray) : Bool := decide (l.length ≤ 8) && l.all jh
theorem zbO (l : List ByteArray) (hl : l.length ≤ 9223372036854775807) (d : Nat) : ∀ (k i : Nat), i + d = l.length → d + 301 ≤ k → ∃ r, yd.l0 k l (l.length : Int) (i : Int) = some r ∧ (r.2 == 0) = (l.drop i).all jh := by
 induction d with
 | zero =>
  intro k i hi hk
  obtain ⟨k, rfl⟩ : ∃ k', k = k' + 1 := ⟨k - 1, by omega⟩
  rw [yd.l0, if_neg (by omega), List.drop_eq_nil_of_le (by omega)]
  exact ⟨_, rfl, rfl⟩
 | succ d ih =>
  intro k i hi hk
  obtain ⟨k, rfl⟩ : ∃ k', k = k' + 1 := ⟨k - 1, by omega⟩
  have hs := ih k (i + 1) (by omega) (by omega)
  rw [yd.l0, if_pos (by omega), if_pos (by omega), if_pos (by omega), Vp l i (by omega), zD (JQ l[i] k (by omega)), (List.drop_eq_getElem_cons (by omega) : l.drop i = l[i] :: l.drop (i + 1)), List.all_cons, z9 (by omega) (by omega)]
  cases jh l[i] with
  | true => rw [if_pos rfl, Bool.true_and]; exact hs
  | false => rw [if_neg (by decide), Bool.false_and]; exact ⟨_, rfl, rfl⟩
theorem Zg (l : List ByteArray) (hl : l.length ≤ 9223372036854775807) (k : Nat) (hk : l.length + 301 ≤ k) : ∃ r, yd.f k l = some r ∧ (r.2 == 0) = Xc l := by
 unfold yd.f Xc
 by_cases h : l.length ≤ 8
 ·rw [if_neg (by omega), decide_eq_true h, Bool.true_and]
  exact zbO l hl l.length k 0 (by omega) (by omega)
 ·rw [if_pos (by omega), decide_eq_false h]
  exact ⟨_, rfl, rfl⟩
theorem zc2 (n a b : Int) : wiB n a b = true ↔ a ≤ n ∧ n ≤ b := by
 unfold wiB
 exact decide_eq_true_iff
def evY (x : S108) : ByteArray := zW x.f0 ++ yh zW x.f1
def veY (x : S77) : ByteArray := zW x.f0 ++ zW x.f1
def itY (x : S86) : ByteArray := ((qE x.f0 ++ zW x.f1.f0) ++ zW x.f1.f1) ++ yh zW x.f1.f2
theorem zce (c s : Int) (st : ByteArray) (r : Int) (l : List Int) (x : Int) (_hl : l.length < 9223372036854775807) (k : Nat) (_hk : l.length + 300 ≤ k) : xX.f k c s st r l x = some (qU c s st r l x) := rfl
theorem Je (l : List S77) (_hl : l.length < 9223372036854775807) (k : Nat) (_hk : l.length + 1 ≤ k) : qc.f k l = some (xu l) := rfl
theorem VE (l : List S86) (k : Nat) : qX.f k l = some (qr l) := rfl
theorem Zi {b : Bool} {y z : ByteArray} (h : b = true → y = z) : xS b y = xS b z := by
 cases b with
 | true => rw [h rfl]
 | false => rfl
theorem X3 {α : Type} {B C : α → ByteArray} (l : List α) (h : ∀ x ∈ l, B x = C x) : ql B l = ql C l := by
 induction l with
 | nil => rfl
 | cons x l ih => rw [yE, yE, h x List.mem_cons_self, ih (fun y hy => h y (List.mem_cons_of_mem _ hy))]
theorem zaR {α : Type} (T : α → ByteArray × Int) (l : List α) : ∀ acc, (qC T l acc).2 ≠ 0 → (qC T l acc).1 = ⟨#[]⟩ := by
 induction l with
 | nil => intro acc h; exact absurd rfl h
 | cons x l ih =>
  intro acc
  rw [qC]
  split
  ·exact ih _
  ·intro _; rfl
theorem zba (l : List ByteArray) : (jt l).1.size ≤ 10000000 := by
 by_cases h : (jt l).2 = 0
 ·exact Vi l h
 ·unfold jt at h ⊢
  split at h
  ·rw [if_pos ‹_›]; exact Nat.zero_le _
  ·rw [if_neg ‹_›, zaR _ _ _ h]; exact Nat.zero_le _
theorem J9 (l : List ByteArray) (hl : l.length ≤ 256) (h : ∀ x ∈ l, x.size ≤ 4096) : jt l = (yh qE l, 0) := by
 have h1 : ∀ x ∈ l, (qB x).2 = 0 := fun x hx => by rw [q7 x (h x hx)]
 unfold jt
 rw [if_neg (by omega), ZP _ _ _ h1]
 unfold yh
 have : qG qB l = ql qE l := by
  clear hl
  induction l with
  | nil => rfl
  | cons x l ih => rw [qG, q7 x (h x List.mem_cons_self), ih (fun y hy => h y (List.mem_cons_of_mem _ hy)) (fun y hy => h1 y (List.mem_cons_of_mem _ hy))]; rfl
 rw [this]
theorem Y4 {s : ByteArray} (h : qH s = true) : s.size ≤ 32 := by
 unfold qH at h
 rw [Bool.and_eq_true, decide_eq_true_eq] at h
 exact h.1
theorem VK {s : ByteArray} (h : jh s = true) : s.size ≤ 32 := by
 unfold jh at h
 rw [Bool.and_eq_true, decide_eq_true_eq] at h
 exact h.1
theorem vF {n a b : Int} (h : wiB n a b = true) (ha : -9223372036854775808 ≤ a) (hb : b ≤ 9223372036854775807) : (Lit.int .i64 n).wf = true := by
 have := (zc2 _ _ _).1 h
 exact Z6 n (by omega) (by omega)
theorem zdD {l : List Int} {m : Int} (h : vo l m = true) : (∀ n ∈ l, (Lit.int .i64 n).wf = true) ∧ (l.length : Int) ≤ m := by
 unfold vo at h
 rw [Bool.and_eq_true, decide_eq_true_eq, List.all_eq_true] at h
 exact ⟨fun n hn => vF (h.1 n hn) (by decide) (by decide), h.2⟩
theorem zcK {c s : Int} {st : ByteArray} (h : Yl c s st = true) : (Lit.int .i64 c).wf = true ∧ (Lit.int .i64 s).wf = true ∧ st.size ≤ 32 := by
 unfold Yl at h
 rw [Bool.and_eq_true, Bool.and_eq_true] at h
 exact ⟨vF h.1 (by decide) (by decide), vF h.2.1 (by decide) (by decide), Y4 h.2.2⟩
def vV (l : List Int) : Prop := l.length ≤ 1048576 ∧ ∀ n ∈ l, (Lit.int .i64 n).wf = true
theorem JX {l : List Int} {m : Int} (h : vo l m = true) (hm : m ≤ 256) : vV l ∧ l.length ≤ 256 := by
 have := zdD h
 exact ⟨⟨by omega, this.1⟩, by omega⟩
theorem JP {c s : Int} {st : ByteArray} {r : Int} {l : List Int} {x : Int} (h : qU c s st r l x = true) : (Lit.int .i64 c).wf = true ∧ (Lit.int .i64 s).wf = true ∧ st.size ≤ 32 ∧ (Lit.int .i64 r).wf = true ∧ vV l ∧ l.length ≤ 256 ∧ (Lit.int .i64 x).wf = true := by
 unfold qU at h
 rw [Bool.and_eq_true, Bool.and_eq_true, Bool.and_eq_true] at h
 have h1 := zcK h.1
 have h2 := JX h.2.2.1 (by decide)
 exact ⟨h1.1, h1.2.1, h1.2.2, vF h.2.1 (by decide) (by decide), h2.1, h2.2, vF h.2.2.2 (by decide) (by decide)⟩
def ZB (x : S108) : Prop := (Lit.int .i64 x.f0).wf = true ∧ vV x.f1
theorem ev_wf {x : S108} (h : evB x = true) : ZB x ∧ x.f1.length ≤ 256 := by
 unfold evB at h
 rw [Bool.and_eq_true] at h
 have h2 := JX h.2 (by decide)
 exact ⟨⟨vF h.1 (by decide) (by decide), h2.1⟩, h2.2⟩
theorem Z5 {l : List S108} (h : Zd l = true) : l.length ≤ 3 ∧ ∀ x ∈ l, ZB x ∧ x.f1.length ≤ 256 := by
 unfold Zd at h
 rw [Bool.and_eq_true, decide_eq_true_eq, List.all_eq_true] at h
 exact ⟨by omega, fun x hx => ev_wf (h.1 x hx)⟩
theorem Q5 {α : Type} {P : α → Bool} {R : α → α → Bool} (l : List α) : ∀ o, xP P R o l = true → ∀ x ∈ l, P x = true := by
 induction l with
 | nil => intro o _ x hx; cases hx
 | cons y l ih =>
  intro o h x hx
  have h2 : P y = true ∧ xP P R (some y) l = true := by
   cases o with
   | none => rw [xP, Bool.and_eq_true] at h; exact h
   | some p => rw [xP, Bool.and_eq_true, Bool.and_eq_true] at h; exact ⟨h.1, h.2.2⟩
  rcases List.mem_cons.1 hx with rfl | hx
  ·exact h2.1
  ·exact ih _ h2.2 x hx
def Z1 (x : S86) : Prop := x.f0.size ≤ 140737488351232 ∧ (Lit.int .i64 x.f1.f0).wf = true ∧ (Lit.int .i64 x.f1.f1).wf = true ∧ vV x.f1.f2
theorem it_wf {x : S86} (h : itB x = true) : Z1 x ∧ x.f0.size ≤ 32 ∧ x.f1.f2.length ≤ 256 := by
 unfold itB staB at h
 rw [Bool.and_eq_true, Bool.and_eq_true, Bool.and_eq_true] at h
 have h1 := Y4 h.1
 have h2 := JX h.2.2.1 (by decide)
 exact ⟨⟨by omega, vF h.2.1 (by decide) (by decide), vF h.2.2.2 (by decide) (by decide), h2.1⟩, h1, h2.2⟩
theorem Zt {l : List S86} (h : qr l = true) : l.length ≤ 64 ∧ ∀ x ∈ l, Z1 x ∧ x.f0.size ≤ 32 ∧ x.f1.f2.length ≤ 256 := by
 unfold qr at h
 rw [Bool.and_eq_true, decide_eq_true_eq] at h
 exact ⟨by omega, fun x hx => it_wf (Q5 l none h.1 x hx)⟩
def YT (x : S77) : Prop := (Lit.int .i64 x.f0).wf = true ∧ (Lit.int .i64 x.f1).wf = true
theorem vE {l : List S77} (h : xu l = true) : l.length ≤ 32 ∧ ∀ x ∈ l, YT x := by
 unfold xu at h
 rw [Bool.and_eq_true, decide_eq_true_eq] at h
 refine ⟨by omega, fun x hx => ?_⟩
 have h2 := Q5 l none h.1 x hx
 unfold Qr at h2
 rw [Bool.and_eq_true] at h2
 exact ⟨vF h2.1 (by decide) (by decide), vF h2.2 (by decide) (by decide)⟩
theorem Yb {l : List ByteArray} (h : Xc l = true) : l.length ≤ 8 ∧ ∀ x ∈ l, x.size ≤ 32 := by
 unfold Xc at h
 rw [Bool.and_eq_true, decide_eq_true_eq, List.all_eq_true] at h
 exact ⟨h.1, fun x hx => VK (h.2 x hx)⟩
def XI (c s : Int) (st : ByteArray) (r : Int) (l : List Int) (x : Int) : ByteArray := ((((zW c ++ zW s) ++ qE st) ++ zW r) ++ yh zW l) ++ zW x
theorem Vc (c s : Int) (st : ByteArray) (r : Int) (l : List Int) (x : Int) (h1 : (Lit.int .i64 c).wf = true) (h2 : (Lit.int .i64 s).wf = true) (h3 : st.size ≤ 140737488351232) (h4 : (Lit.int .i64 r).wf = true) (h5 : vV l) (h6 : (Lit.int .i64 x).wf = true) (k : Nat) (hk : 3000000 ≤ k) :
  yD.f k c s st r l x = some (xS (qU c s st r l x) (XI c s st r l x)) := by
 have b1 := zN c
 have b2 := zN s
 have b3 := jk st
 have b4 := zN r
 have b5 := vI l
 have e1 := Yz c s h1 h2 ⟨#[]⟩ (by decide) k (by omega)
 rw [vM, Ya] at e1
 unfold yD.f
 rw [zD e1, zD (Z2 st h3 _ (by simp only [zK]; omega)), zD (jn r h4 _ (by simp only [zK]; omega) k (by omega)), zD (jr l h5.2 _ (by simp only [zK]; omega)), zD (zce c s st r l x (by have := h5.1; omega) k (by have := h5.1; omega)), zD (jn x h6 _ (by simp only [zK]; omega) k (by omega)), zD (vT _ _)]
 refine congrArg some (Zi fun hb => ?_)
 obtain ⟨_, _, g3, _, _, g6, _⟩ := JP hb
 rw [q7 st (by omega), qI l g6]
 rfl
def evZ (x : S108) : ByteArray := zW x.f0 ++ (yS x.f1).1
theorem zco (x : S108) : (evZ x).size ≤ 10000010 := by
 have h1 := zN x.f0
 have h2 := vI x.f1
 unfold evZ
 rw [zK]
 omega
theorem Jd (x : S108) (h : ZB x) (a : ByteArray) (ha : a.size + 10000030 < 140737488355328) (k : Nat) (hk : 3 ≤ k) : yb.f k (bytesOf a) x.f0 x.f1 = some (bytesOf (a ++ evZ x)) := by
 have h1 := zN x.f0
 unfold yb.f
 rw [zD (jn x.f0 h.1 a (by omega) k hk), zD (jr x.f1 h.2.2 _ (by rw [zK]; omega)), yJ]
 rfl
theorem QJ (l : List S108) (hl : l.length ≤ 1048576) (h : ∀ x ∈ l, ZB x) (a : ByteArray) (ha : a.size ≤ 100000000) (k : Nat) (hk : 3000000 ≤ k) : zL.f k (bytesOf a) l = some (bytesOf (a ++ yh evZ l)) := by
 have h1 := zN (l.length : Int)
 unfold zL.f
 rw [zD (jn (l.length : Int) (Z6 _ (by omega) (by omega)) a (by omega) k (by omega)), Zl _ evZ 10000030 l _ (fun x _ => Nat.le_trans (zco x) (by decide)) (fun x hx b hb => Jd x (h x hx) b hb k (by omega)) (by rw [zK]; omega), yJ]
 rfl
theorem zas (l : List S108) (h : Zd l = true) : yh evZ l = yh evY l := by
 unfold yh
 rw [X3 l (fun x hx => ?_)]
 unfold evZ evY
 rw [qI x.f1 ((Z5 h).2 x hx).2]
theorem evsz {l : List S108} (h : ∀ x ∈ l, ZB x) : ∀ x ∈ l, x.f1.length + 1 ≤ 1048577 ∧ x.f1.length ≤ 9223372036854775807 := fun x hx => by
 have := (h x hx).2.1
 omega
theorem Yd (l : List S108) (hl : l.length ≤ 1048576) (h : ∀ x ∈ l, ZB x) (k : Nat) (hk : 3000000 ≤ k) : yr.f k l = some (xS (Zd l) (yh evY l)) := by
 have e1 := QJ l hl h ⟨#[]⟩ (by decide) k hk
 rw [vM, Ya] at e1
 unfold yr.f
 rw [zD (ZZ l (by omega) 1048577 (evsz h) k (by omega)), zD e1, zD (vT _ _)]
 exact congrArg some (Zi fun hb => zas l hb)
def itZ (x : S86) : ByteArray := (qB x.f0).1 ++ ((zW x.f1.f0 ++ zW x.f1.f1) ++ (yS x.f1.f2).1)
theorem zb3 (x : S86) : (itZ x).size ≤ 10004126 := by
 have h1 := jk x.f0
 have h2 := zN x.f1.f0
 have h3 := zN x.f1.f1
 have h4 := vI x.f1.f2
 unfold itZ
 rw [zK, zK, zK]
 omega
theorem J0 (x : S86) (h : Z1 x) (a : ByteArray) (ha : a.size + 10008126 < 140737488355328) (k : Nat) (hk : 3 ≤ k) : yf.f k (bytesOf a) x.f0 x.f1.f0 x.f1.f1 x.f1.f2 = some (bytesOf (a ++ itZ x)) := by
 have h1 := jk x.f0
 have h2 := zN x.f1.f0
 have h3 := zN x.f1.f1
 unfold yf.f
 rw [zD (Z2 x.f0 h.1 a (by omega)), zD (Yz x.f1.f0 x.f1.f1 h.2.1 h.2.2.1 _ (by rw [zK]; omega) k hk), zD (jr x.f1.f2 h.2.2.2.2 _ (by rw [zK, zK, zK]; omega)), yJ, yJ]
 rfl
theorem Q9 (l : List S86) (hl : l.length ≤ 1048576) (h : ∀ x ∈ l, Z1 x) (a : ByteArray) (ha : a.size ≤ 100000000) (k : Nat) (hk : 3000000 ≤ k) : yc.f k (bytesOf a) l = some (bytesOf (a ++ yh itZ l)) := by
 have h1 := zN (l.length : Int)
 unfold yc.f
 rw [zD (jn (l.length : Int) (Z6 _ (by omega) (by omega)) a (by omega) k (by omega)), Zl _ itZ 10008126 l _ (fun x _ => Nat.le_trans (zb3 x) (by decide)) (fun x hx b hb => J0 x (h x hx) b hb k (by omega)) (by rw [zK]; omega), yJ]
 rfl
theorem zby (l : List S86) (h : qr l = true) : yh itZ l = yh itY l := by
 unfold yh
 rw [X3 l (fun x hx => ?_)]
 obtain ⟨_, h1, h2⟩ := (Zt h).2 x hx
 unfold itZ itY
 rw [qI x.f1.f2 h2, q7 x.f0 (by omega), yJ, yJ, yJ]
theorem YJ (l : List S86) (hl : l.length ≤ 524288) (hs : ∀ x ∈ l, x.f0.size ≤ 1048576) (h : ∀ x ∈ l, Z1 x) (k : Nat) (hk : 3000000 ≤ k) : y8.f k l = some (xS (qr l) (yh itY l)) := by
 have e1 := Q9 l (by omega) h ⟨#[]⟩ (by decide) k hk
 rw [vM, Ya] at e1
 unfold y8.f
 rw [zD (VE l k), zD e1, zD (vT _ _)]
 exact congrArg some (Zi fun hb => zby l hb)
theorem XP (x : S77) : (veY x).size ≤ 20 := by
 have h2 := zN x.f0
 have h3 := zN x.f1
 unfold veY
 rw [zK]
 omega
theorem QF (l : List S77) (hl : l.length ≤ 1048576) (h : ∀ x ∈ l, YT x) (d : Nat) : ∀ (k i : Nat) (acc : ByteArray), i + d = l.length → d + 10 ≤ k → acc.size ≤ 100000000 + 20 * i →
  zw.l0 k (bytesOf acc) l (l.length : Int) (i : Int) = some (bytesOf (acc ++ ql veY (l.drop i))) := by
 induction d with
 | zero =>
  intro k i acc hi hk ha
  obtain ⟨k, rfl⟩ : ∃ m, k = m + 1 := ⟨k - 1, by omega⟩
  rw [zw.l0, if_neg (by omega), List.drop_of_length_le (by omega), qw, qJ]
 | succ d ih =>
  intro k i acc hi hk ha
  obtain ⟨k, rfl⟩ : ∃ m, k = m + 1 := ⟨k - 1, by omega⟩
  have hlt : i < l.length := by omega
  have hx := h _ (List.getElem_mem hlt)
  have hz := XP l[i]
  have e : xh.f k (bytesOf acc) l[i].f0 l[i].f1 = some (bytesOf (acc ++ veY l[i])) := by
   unfold xh.f
   rw [zD (Yz _ _ hx.1 hx.2 acc (by omega) k (by omega))]
   rfl
  rw [zw.l0, if_pos (by omega), if_pos (by omega), if_pos (by omega), zdq l i hlt, zD e, z9 (by omega) (by omega), List.drop_eq_getElem_cons hlt, yE, ← yJ]
  exact ih k (i + 1) (acc ++ veY l[i]) (by omega) (by omega) (by rw [zK]; omega)
theorem ZC (l : List S77) (hl : l.length ≤ 1048576) (h : ∀ x ∈ l, YT x) (k : Nat) (hk : 3000000 ≤ k) : yz.f k l = some (xS (xu l) (yh veY l)) := by
 have h1 := zN (l.length : Int)
 have e1 := jn (l.length : Int) (Z6 _ (by omega) (by omega)) ⟨#[]⟩ (by decide) k (by omega)
 rw [vM, Ya] at e1
 have e2 := QF l hl h l.length k 0 (zW (l.length : Int)) (by omega) (by omega) (by omega)
 rw [List.drop_zero] at e2
 have e3 : zw.f k ([] : List Int) l = some (bytesOf (yh veY l)) := by
  unfold zw.f
  rw [zD e1]
  exact e2
 unfold yz.f
 rw [zD (Je l (by omega) k (by omega)), zD e3, zD (vT _ _)]
theorem Qs (l : List ByteArray) (hl : l.length ≤ 1048576) (h : ∀ x ∈ l, x.size ≤ 140737488351232) (k : Nat) (hk : 3000000 ≤ k) : xe.f k l = some (xS (Xc l) (yh qE l)) := by
 obtain ⟨r, e1, e2⟩ := Zg l (by omega) k (by omega)
 have h1 := zba l
 unfold xe.f
 rw [zD e1, zD (VT l h), if_pos (by omega), e2, vT]
 refine congrArg some (Zi fun hb => ?_)
 obtain ⟨g1, g2⟩ := Yb hb
 rw [J9 l (by omega) (fun x hx => by have := g2 x hx; omega)]
end Go.Proofs.YtepipnpfggnadaaGreat.Q
namespace Go.Proofs.YtepipnpfggnadaaGreat.Crc
def sN (r : Nat) : Nat := if r % 2 = 1 then (r / 2) ^^^ 2197175160 else r / 2
def sK : Nat → Nat → Nat
 | 0, r => r
 | k + 1, r => sK k (sN r)
def sB (r : Nat) : Nat := sK 8 r
def thN (r : Nat) (l : List Nat) : Nat := l.foldl (fun r c => sB (r ^^^ c)) r
theorem Vo (r : Nat) : thN r [] = r := rfl
theorem XL (r c : Nat) (l : List Nat) : thN r (c :: l) = thN (sB (r ^^^ c)) l := List.foldl_cons ..
theorem VO (r : Nat) (h : r < 4294967296) : sN r < 4294967296 := by
 unfold sN
 split
 ·exact Nat.xor_lt_two_pow (n := 32) (by omega) (by omega)
 ·omega
theorem VX (k : Nat) : ∀ r, r < 4294967296 → sK k r < 4294967296 := by
 induction k with
 | zero => intro r h; exact h
 | succ k ih => intro r h; exact ih _ (VO r h)
theorem JJ (l : List Nat) : ∀ r, r < 4294967296 → (∀ c ∈ l, c < 256) → thN r l < 4294967296 := by
 induction l with
 | nil => intro r h _; exact h
 | cons c l ih =>
  intro r h hl
  rw [XL]
  refine ih _ (VX 8 _ (Nat.xor_lt_two_pow (n := 32) h (Nat.lt_trans (hl c List.mem_cons_self) (by omega)))) (fun x hx => hl x (List.mem_cons_of_mem _ hx))
def F : Nat := 4294967295
def Z0 (l : List Nat) : Nat := thN F l ^^^ F
end Go.Proofs.YtepipnpfggnadaaGreat.Crc
namespace Go.Proofs.YtepipnpfggnadaaGreat.Q
open Go.RowKit Go.Proofs.YtepipnpfggnadaaGreatW.PrintWords Go.Proofs.YtepipnpfggnadaaGreatW.PrintLast Go.Proofs.YtepipnpfggnadaaGreatW.PrintMore
attribute [local go_sem] jG jE vD vr ja je jK jJ
def xI.f (a0 : Int) : Option (Int) := if (Int.tmod a0 2) = 1 then (some (Go.bits .xor .u32 ((Int.tdiv a0 2) % 4294967296) 2197175160)) else (some ((Int.tdiv a0 2) % 4294967296))
theorem xI.calls (a0 : Int) (r : Int) (w : World) (h : xI.f a0 = some r) :
  Calls Tryz.prog 111 #[.int .u32 a0] w fun e w' => e = .returned (.int .u32 r) ∧ zj w w' := by
 have H : (if (Int.tmod a0 2) = 1 then (some (Go.bits .xor .u32 ((Int.tdiv a0 2) % 4294967296) 2197175160)) else (some ((Int.tdiv a0 2) % 4294967296))) = some r := h
 clear h
 by_cases c2 : (Int.tmod a0 2) = 1
 ·rw [if_pos c2] at H
  have c2b0 : ((Int.tmod a0 2) == 1) = true := beq_iff_eq.mpr c2
  have c2b1 : ((Int.tmod a0 2) != 1) = false := bne_eq_false_iff_eq.mpr c2
  clear c2
  obtain rfl := Option.some.inj H
  go_enter Tryz.func111, Tryz.ntmps111
  go_wp2
  go_ret
  exact ⟨by first | rfl | (simp; done) | (simp [*]; done), by repeat (first | exact zj.refl _ | apply zj.step)⟩
 ·rw [if_neg c2] at H
  have c2b0 : ((Int.tmod a0 2) == 1) = false := beq_eq_false_iff_ne.mpr c2
  have c2b1 : ((Int.tmod a0 2) != 1) = true := bne_iff_ne.mpr c2
  obtain rfl := Option.some.inj H
  go_enter Tryz.func111, Tryz.ntmps111
  go_wp2
  go_ret
  exact ⟨by first | rfl | (simp; done) | (simp [*]; done), by repeat (first | exact zj.refl _ | apply zj.step)⟩
mutual
def zE.l0 : Nat → Int → ByteArray → Int → Option (Int)
 | 0, _, _, _ => none
 | k + 1, x0, x1, x5 => if x5 < (x1.size : Int) then (if 0 ≤ x5 then (zE.l1 k (Go.bits .xor .u32 x0 ((bt x1 x5) % 4294967296)) x1 x5 0) else (none)) else (some x0)
def zE.l1 : Nat → Int → ByteArray → Int → Int → Option (Int)
 | 0, _, _, _, _ => none
 | k + 1, x0, x1, x5, x6 => if x6 < 8 then ((xI.f x0).bind fun t725 => (zE.l1 k t725 x1 x5 (wrap64 (x6 + 1)))) else (zE.l0 k x0 x1 (wrap64 (x5 + 1)))
end
def zE.f (k : Nat) (a0 : Int) (a1 : ByteArray) : Option (Int) := zE.l0 k a0 a1 0
theorem zE.calls (k : Nat) (a0 : Int) (a1 : ByteArray) (r : Int) (w : World) (h : zE.f k a0 a1 = some r) :
  Calls Tryz.prog 71 #[.int .u32 a0, .string a1] w fun e w' => e = .returned (.int .u32 r) ∧ zj w w' := by
 have H : (zE.l0 k a0 a1 0) = some r := h
 clear h
 have H' := za.mk H
 clear H
 go_enter Tryz.func71, Tryz.ntmps71
 go_wp2
 go_loopg [0, 5] k (fun kq v0 v5 w' => ∃ (x0_1 : Int) (x5_1 : Int), v0 = .int .u32 x0_1 ∧ v5 = .int .i64 x5_1 ∧ za (zE.l0 kq x0_1 a1 x5_1 = some r) ∧ za (kq ≤ k) ∧ zj w w')
 case atStart => exact ⟨(a0), (0), (by first | rfl | (simp; done) | (simp [*]; done)), (by first | rfl | (simp; done) | (simp [*]; done)), H', ⟨Nat.le_refl _⟩, by repeat (first | exact zj.refl _ | apply zj.step)⟩
 case round =>
  clear H'
  try clear p2
  obtain ⟨x0_1, x5_1, rfl, rfl, HA, HK1, ⟨m1, rfl⟩⟩ := hrel
  cases gk with
  | zero => exact absurd HA.out (by simp [zE.l0])
  | succ k1 =>
   have H := HA.out
   clear HA
   simp only [zE.l0] at H
   by_cases c3 : x5_1 < (a1.size : Int)
   ·rw [if_pos c3] at H
    have c3b0 : decide (x5_1 < (a1.size : Int)) = true := decide_eq_true c3
    clear c3
    by_cases c4 : 0 ≤ x5_1
    ·rw [if_pos c4] at H
     have c4b0 : decide (0 ≤ x5_1) = true := decide_eq_true c4
     clear c4
     have H' := za.mk H
     clear H
     have p5 : 0 ≤ (x5_1 : Int) := of_decide_eq_true (by first | (with_reducible assumption) | assumption)
     have q5 : x5_1 < (a1.size : Int) := of_decide_eq_true (by first | (with_reducible assumption) | assumption)
     have hx5 := Xl a1 x5_1
     replace p5 := eq_true p5
     replace q5 := eq_true q5
     go_wp2
     go_loopg [0, 6] k1 (fun kq v0 v6 w' => ∃ (x0_2 : Int) (x6_2 : Int), v0 = .int .u32 x0_2 ∧ v6 = .int .i64 x6_2 ∧ za (zE.l1 kq x0_2 a1 x5_1 x6_2 = some r) ∧ za (kq ≤ k1) ∧ zj w w')
     case atStart => exact ⟨(Go.bits .xor .u32 x0_1 ((bt a1 x5_1) % 4294967296)), (0), (by first | rfl | (simp; done) | (simp [*]; done)), (by first | rfl | (simp; done) | (simp [*]; done)), H', ⟨Nat.le_refl _⟩, by repeat (first | exact zj.refl _ | apply zj.step)⟩
     case round =>
      clear H'
      try clear p2
      try clear c3
      try clear c3b0
      try clear c4
      try clear c4b0
      try clear p5
      try clear q5
      try clear hx5
      try clear p2
      try clear p5
      try clear q5
      obtain ⟨x0_2, x6_2, rfl, rfl, HA, HK2, ⟨m2, rfl⟩⟩ := hrel
      cases gk with
      | zero => exact absurd HA.out (by simp [zE.l1])
      | succ k2 =>
       have H := HA.out
       clear HA
       simp only [zE.l1] at H
       by_cases c6 : x6_2 < 8
       ·rw [if_pos c6] at H
        have c6b0 : decide (x6_2 < 8) = true := decide_eq_true c6
        clear c6
        replace H := zdJ.mp H
        obtain ⟨t725, A70, H⟩ := H
        replace H : (zE.l1 k2 t725 a1 x5_1 (wrap64 (x6_2 + 1))) = some r := H
        have A7 := za.mk A70
        clear A70
        have H' := za.mk H
        clear H
        go_wp2_with (first | ((with_reducible refine zy (f := 111) rfl ?_); refine zU (some 24) rfl rfl Tryz.func111 (by kernel_rfl) rfl #[.int .u32 x0_2] rfl (by (try simp only [zdI, List.map_cons, List.map_nil]); first | done | rfl | (simp only [List.length_drop, List.length_take]; rfl)) ?_; (with_reducible refine (xI.calls x0_2 t725 _ A7.out).mono ?_); rintro e w' ⟨rfl, ⟨nd, rfl⟩⟩; refine ⟨_, rfl, ?_⟩))
        go_roundg k2
        case measure => have := HK1.out; have := HK2.out; omega
        case rel => exact ⟨(t725), (wrap64 (x6_2 + 1)), (by first | rfl | (simp; done) | (simp [*]; done)), (by first | rfl | (simp; done) | (simp [*]; done)), H', ⟨by have := HK1.out; have := HK2.out; omega⟩, by repeat (first | exact zj.refl _ | apply zj.step)⟩
       ·rw [if_neg c6] at H
        have c6b0 : decide (x6_2 < 8) = false := decide_eq_false c6
        clear c6
        have H' := za.mk H
        clear H
        go_wp2
        go_roundg k2
        case measure => have := HK1.out; have := HK2.out; omega
        case rel => exact ⟨(x0_2), (wrap64 (x5_1 + 1)), (by first | rfl | (simp; done) | (simp [*]; done)), (by first | rfl | (simp; done) | (simp [*]; done)), H', ⟨by have := HK1.out; have := HK2.out; omega⟩, by repeat (first | exact zj.refl _ | apply zj.step)⟩
    ·rw [if_neg c4] at H
     exact absurd H (by simp)
   ·rw [if_neg c3] at H
    have c3b0 : decide (x5_1 < (a1.size : Int)) = false := decide_eq_false c3
    clear c3
    obtain rfl := Option.some.inj H
    go_wp2
    go_ret
    exact ⟨by first | rfl | (simp; done) | (simp [*]; done), by repeat (first | exact zj.refl _ | apply zj.step)⟩
def yZ.f (k : Nat) (a0 : ByteArray) : Option (Int) := (zE.f k 4294967295 a0).bind fun t726 => (some (Go.bits .xor .u32 t726 4294967295))
theorem yZ.calls (k : Nat) (a0 : ByteArray) (r : Int) (w : World) (h : yZ.f k a0 = some r) :
  Calls Tryz.prog 27 #[.string a0] w fun e w' => e = .returned (.int .u32 r) ∧ zj w w' := by
 have H : ((zE.f k 4294967295 a0).bind fun t726 => (some (Go.bits .xor .u32 t726 4294967295))) = some r := h
 clear h
 replace H := zdJ.mp H
 obtain ⟨t726, A20, H⟩ := H
 replace H : (some (Go.bits .xor .u32 t726 4294967295)) = some r := H
 have A2 := za.mk A20
 clear A20
 obtain rfl := Option.some.inj H
 go_enter Tryz.func27, Tryz.ntmps27
 go_wp2_with (first | ((with_reducible refine zy (f := 71) rfl ?_); refine zU (some 4) rfl rfl Tryz.func71 (by kernel_rfl) rfl #[.int .u32 4294967295, .string a0] rfl (by (try simp only [zdI, List.map_cons, List.map_nil]); first | done | rfl | (simp only [List.length_drop, List.length_take]; rfl)) ?_; (with_reducible refine (zE.calls k 4294967295 a0 t726 _ A2.out).mono ?_); rintro e w' ⟨rfl, ⟨nd, rfl⟩⟩; refine ⟨_, rfl, ?_⟩))
 go_ret
 exact ⟨by first | rfl | (simp; done) | (simp [*]; done), by repeat (first | exact zj.refl _ | apply zj.step)⟩
open Go.RowKit Go.Proofs.YtepipnpfggnadaaGreatW.PrintWords Go.Proofs.YtepipnpfggnadaaGreatW.PrintLast Go.Proofs.YtepipnpfggnadaaGreatW.PrintMore Go.Proofs.YtepipnpfggnadaaGreat.Crc
theorem VQ (d : Nat) : ∀ (k : Nat) (i : Int) (r : Nat), r < 4294967296 → 0 ≤ i → i + d = 8 → d < k → ym.l0 k (r : Int) i = some ((sK d r : Nat) : Int) := by
 induction d with
 | zero =>
  intro k i r hr h0 hi hk
  obtain ⟨k, rfl⟩ : ∃ m, k = m + 1 := ⟨k - 1, by omega⟩
  simp only [ym.l0]
  rw [if_neg (by omega)]
  rfl
 | succ d ih =>
  intro k i r hr h0 hi hk
  obtain ⟨k, rfl⟩ : ∃ m, k = m + 1 := ⟨k - 1, by omega⟩
  simp only [ym.l0]
  rw [if_pos (by omega), zcj r hr, z9 h0 (by omega)]
  have hn := ih k (i + 1) (sN r) (VO r hr) (by omega) (by omega) (by omega)
  unfold sN at hn
  by_cases h1 : r % 2 = 1
  ·rw [if_pos (by omega)]
   rw [if_pos h1] at hn
   have e : (r : Int) / 2 = ((r / 2 : Nat) : Int) := by omega
   have e2 : (2197175160 : Int) = ((2197175160 : Nat) : Int) := rfl
   rw [e, e2, Zq _ _ (by omega) (by omega)]
   rw [hn]
   simp only [sK, sN, if_pos h1]
  ·rw [if_neg (by omega)]
   rw [if_neg h1] at hn
   have e : (r : Int) / 2 = ((r / 2 : Nat) : Int) := by omega
   rw [e, hn]
   simp only [sK, sN, if_neg h1]
theorem Vj (k : Nat) (hk : 8 < k) (r c : Nat) (hr : r < 4294967296) (hc : c < 256) : ym.f k (r : Int) (c : Int) = some ((sB (r ^^^ c) : Nat) : Int) := by
 unfold ym.f
 have e : (c : Int) % 4294967296 = (c : Int) := by omega
 rw [e, Zq _ _ hr (by omega)]
 exact VQ 8 k 0 _ (Nat.xor_lt_two_pow (n := 32) hr (by omega)) (by omega) (by omega) hk
theorem zcO (s : ByteArray) (hs : s.size ≤ 140737488351232) (d : Nat) : ∀ (k : Nat) (i r : Nat), r < 4294967296 → i + d = s.size → d + 9 < k → yx.l0 k s (r : Int) (s.size : Int) (i : Int) = some (Go.bits .xor .u32 4294967295 ((thN r ((bl s).drop i) : Nat) : Int)) := by
 induction d with
 | zero =>
  intro k i r hr hi hk
  obtain ⟨k, rfl⟩ : ∃ m, k = m + 1 := ⟨k - 1, by omega⟩
  simp only [yx.l0]
  rw [if_neg (by omega), List.drop_of_length_le (by rw [z8]; omega), Vo]
 | succ d ih =>
  intro k i r hr hi hk
  obtain ⟨k, rfl⟩ : ∃ m, k = m + 1 := ⟨k - 1, by omega⟩
  have hlt : i < s.size := by omega
  have hli : i < (bl s).length := by rw [z8]; exact hlt
  have hc := Qj s i hli
  simp only [yx.l0]
  rw [if_pos (by omega), if_pos (by omega), if_pos (by omega), Xm s i hlt, Vj k (by omega) r _ hr hc]
  simp only [Option.bind_some]
  rw [z9 (by omega) (by omega), Yi s i hlt, XL]
  exact ih k (i + 1) _ (VX 8 _ (Nat.xor_lt_two_pow (n := 32) hr (by omega))) (by omega) (by omega)
theorem xorF (r : Nat) (hr : r < 4294967296) : Go.bits .xor .u32 4294967295 (r : Int) = ((F ^^^ r : Nat) : Int) := Zq 4294967295 r (by omega) hr
theorem xorF' (r : Nat) (hr : r < 4294967296) : Go.bits .xor .u32 (r : Int) 4294967295 = ((r ^^^ F : Nat) : Int) := Zq r 4294967295 hr (by omega)
theorem Js : F < 4294967296 := by decide
theorem Vz (r : Nat) (hr : r < 4294967296) : F ^^^ r < 4294967296 := Nat.xor_lt_two_pow (n := 32) Js hr
def VM (r : Nat) (l : List Nat) : Nat := thN (F ^^^ r) l ^^^ F
theorem VA (l : List Nat) (hl : ∀ c ∈ l, c < 256) : Z0 l < 4294967296 := Nat.xor_lt_two_pow (n := 32) (JJ l _ Js hl) Js
theorem V7 (l : List Nat) : VM 0 l = Z0 l := by unfold VM Z0; rw [Nat.xor_zero]
theorem zbF (s : ByteArray) (hs : s.size ≤ 140737488351232) (k : Nat) (hk : s.size + 9 < k) (r : Nat) (hr : r < 4294967296) : yx.f k (r : Int) s = some ((VM r (bl s) : Nat) : Int) := by
 unfold yx.f
 rw [xorF r hr]
 have h := zcO s hs s.size k 0 (F ^^^ r) (Vz r hr) (by omega) hk
 rw [List.drop_zero, xorF _ (JJ _ _ (Vz r hr) (ZN s)), Nat.xor_comm F (thN (F ^^^ r) (bl s))] at h
 exact h
theorem VC (s : ByteArray) (hs : s.size ≤ 140737488351232) (k : Nat) (hk : s.size + 9 < k) : xE.f k s = some ((Z0 (bl s) : Nat) : Int) := by
 unfold xE.f
 have h := zbF s hs k hk 0 (by omega)
 rw [V7] at h
 exact (congrArg (fun o => o.bind fun t => some t) h)
theorem zda (r : Nat) (hr : r < 4294967296) : xI.f (r : Int) = some ((sN r : Nat) : Int) := by
 have e1 : Int.tmod (r : Int) 2 = ((r % 2 : Nat) : Int) := by rw [Int.tmod_eq_emod_of_nonneg (by omega)]; omega
 have e2 : Int.tdiv (r : Int) 2 % 4294967296 = ((r / 2 : Nat) : Int) := by rw [Int.tdiv_eq_ediv_of_nonneg (by omega)]; omega
 unfold xI.f sN
 rw [e1, e2]
 by_cases h : r % 2 = 1
 ·rw [if_pos (by omega), if_pos h]
  have e3 : (2197175160 : Int) = ((2197175160 : Nat) : Int) := rfl
  rw [e3, Zq _ _ (by omega) (by omega)]
 ·rw [if_neg (by omega), if_neg h]
theorem zb7 (s : ByteArray) (i : Int) (d : Nat) : ∀ (k : Nat) (j : Int) (r : Nat), r < 4294967296 → 0 ≤ j → j + d = 8 → zE.l1 (k + d + 1) (r : Int) s i j = zE.l0 k ((sK d r : Nat) : Int) s (wrap64 (i + 1)) := by
 induction d with
 | zero =>
  intro k j r hr h0 hj
  simp only [zE.l1, Nat.add_zero]
  rw [if_neg (by omega)]
  rfl
 | succ d ih =>
  intro k j r hr h0 hj
  have e : k + (d + 1) + 1 = (k + d + 1) + 1 := by omega
  rw [e]
  simp only [zE.l1]
  rw [if_pos (by omega), zda r hr]
  simp only [Option.bind_some]
  rw [z9 h0 (by omega)]
  exact ih k (j + 1) (sN r) (VO r hr) (by omega) (by omega)
theorem zcv (s : ByteArray) (hs : s.size ≤ 140737488351232) (d : Nat) : ∀ (k : Nat) (i r : Nat), r < 4294967296 → i + d = s.size → 10 * d < k → zE.l0 k (r : Int) s (i : Int) = some ((thN r ((bl s).drop i) : Nat) : Int) := by
 induction d with
 | zero =>
  intro k i r hr hi hk
  obtain ⟨k, rfl⟩ : ∃ m, k = m + 1 := ⟨k - 1, by omega⟩
  simp only [zE.l0]
  rw [if_neg (by omega), List.drop_of_length_le (by rw [z8]; omega), Vo]
 | succ d ih =>
  intro k i r hr hi hk
  obtain ⟨k, rfl⟩ : ∃ m, k = m + 8 + 1 + 1 := ⟨k - 10, by omega⟩
  have hlt : i < s.size := by omega
  have hli : i < (bl s).length := by rw [z8]; exact hlt
  have hc := Qj s i hli
  simp only [zE.l0]
  have e : ((bl s)[i] : Int) % 4294967296 = (((bl s)[i] : Nat) : Int) := by omega
  have hx : r ^^^ (bl s)[i] < 4294967296 := Nat.xor_lt_two_pow (n := 32) hr (by omega)
  rw [if_pos (by omega), if_pos (by omega), Xm s i hlt, e, Zq _ _ hr (by omega), zb7 s _ 8 k 0 _ hx (by omega) (by omega), z9 (by omega) (by omega), Yi s i hlt, XL]
  exact ih k (i + 1) _ (VX 8 _ hx) (by omega) (by omega)
theorem zaW (s : ByteArray) (hs : s.size ≤ 140737488351232) (k : Nat) (hk : 10 * s.size < k) (r : Nat) (hr : r < 4294967296) : zE.f k (r : Int) s = some ((thN r (bl s) : Nat) : Int) := by
 have h := zcv s hs s.size k 0 r hr (by omega) hk
 rw [List.drop_zero] at h
 exact h
theorem VR (s : ByteArray) (hs : s.size ≤ 140737488351232) (k : Nat) (hk : 10 * s.size < k) : yZ.f k s = some ((Z0 (bl s) : Nat) : Int) := by
 unfold yZ.f
 have h := zaW s hs k hk F Js
 have e : ((F : Nat) : Int) = 4294967295 := rfl
 rw [e] at h
 rw [h]
 simp only [Option.bind_some]
 rw [xorF' _ (JJ _ _ Js (ZN s))]
 rfl
theorem J7 {k : Nat} {s : ByteArray} {r : Int} (h : yZ.f k s = some r) : 0 ≤ r ∧ r < 4294967296 := by
 unfold yZ.f at h
 rw [zdJ] at h
 obtain ⟨t, _, h⟩ := h
 obtain rfl := Option.some.inj h
 exact zcb _ _ _
def vp (x : Int) : Nat → List Int
 | 0 => []
 | i + 1 => vp x i ++ [(x / 256 ^ i) % 256]
theorem Vd (x : Int) (i : Nat) : (vp x i).length = i := by
 induction i with
 | zero => rfl
 | succ i ih => simp [vp, ih]
theorem zct (x : Int) (i : Nat) : x / 256 ^ i / 256 = x / 256 ^ (i + 1) := by
 rw [Int.pow_succ, Int.ediv_ediv_of_nonneg (Int.pow_nonneg (by omega))]
def xc.f (k : Nat) (a0 : ByteArray) : Option ByteArray :=
 if a0.size ≤ 140737488351232 then (yZ.f k a0).bind fun x => some (strOfNums (bytesOf a0 ++ vp x 4)) else none
set_option maxHeartbeats 2000000 in
theorem xc.calls (k : Nat) (a0 : ByteArray) (r : ByteArray) (w : World) (h : xc.f k a0 = some r) :
  Calls Tryz.prog 11 #[.string a0] w fun e w' => e = .returned (.string r) ∧ Below w.heap.size w w' := by
 unfold xc.f at h
 split at h
 case isFalse => cases h
 case isTrue hsz =>
 rw [zdJ] at h
 obtain ⟨x, hx, h⟩ := h
 have hr := J7 hx
 have A1 := za.mk hx
 have HR := za.mk (Option.some.inj h)
 have HX := za.mk hr
 clear hx h hr
 obtain ⟨i0, hi, hz0, hz1, hz2⟩ := info_parts XU
 have hcv := fun W : World => Lib.run_convert_string_bytes (P := Tryz.prog) W 9 41 5 a0 Tryz.underlying9 Tryz.underlying41 Tryz.underlying5
 go_enter Tryz.func11, Tryz.ntmps11
 go_wp2_with (first | (go_at_call 27; refine (yZ.calls k a0 x _ A1.out).mono ?_; rintro e w' ⟨rfl, ⟨nd, rfl⟩⟩))
 have hcv0 := za.mk hcv
 clear hcv
 have HB0 := za.mk (xW (zb (Below.refl w.heap.size w) nd) (Nat.le_refl _) 5 a0)
 have HM0 := za.mk (yv.of_bytes (w.drewN nd) w.heap.size 5 a0 (Nat.le_refl _) (by simp only [maxLen]; omega))
 go_loopg [3, 4, 5] 4 (fun kq v3 v4 v5 wr => ∃ (i : Nat) (y : Int), v5 = .int .i64 i ∧ v3 = .int .u32 y ∧ za (i + kq = 4 ∧ y = x / 256 ^ i ∧ 0 ≤ y ∧ y < 4294967296) ∧ za (yv wr w.heap.size 5 v4 (yp .u8 (bytesOf a0 ++ vp x i))) ∧ za (Below w.heap.size w wr))
 case atStart => exact ⟨0, x, rfl, rfl, ⟨rfl, by simp, HX.out.1, HX.out.2⟩, ⟨by simpa [vp, ← xQ] using HM0.out⟩, HB0⟩
 case round =>
  clear HB0 HM0
  obtain ⟨i, y, rfl, rfl, ⟨hik, hy, hy0, hy1⟩, HM, HB⟩ := hrel
  have HY := za.mk hy
  clear hy
  have hlen : (yp .u8 (bytesOf a0 ++ vp x i)).length = a0.size + i := by rw [xw, zdM, yj, Vd]
  have HL := za.mk hlen
  clear hlen
  by_cases hlt : i < 4
  ·go_wp2_with (first | ((with_reducible refine zJ (N := 19) rfl ?_); refine Qm _ rfl (.tmp 14) (.tmp 18) 41 rfl w.heap.size 5 i0 (.int .u8 0) 1 Tryz.underlying41 hi hz0 hz1 hz2 (by decide) rfl _ (yp .u8 (bytesOf a0 ++ vp x i)) rfl (HM.out.below (zc (Below.refl _ _) _)) ⟨wr.heap.size, 0, none⟩ 1 1 [.int .u8 (y % 256)] rfl rfl ?hn ?ho ?hl ?hb ?_))
   case hn =>
    intro j u hu
    match j, hu with
    | 0, hu => simp at hu; subst hu; simp [Addr.add]
   case ho => intro u hu; simp at hu; subst hu; rfl
   case hl => have := HL.out; omega
   case hb => have := HB.out.size; simp; omega
   intro v1 w1 hm1 hg1
   have e1 : yp .u8 (bytesOf a0 ++ vp x i) ++ [.int .u8 (y % 256)] = yp .u8 (bytesOf a0 ++ vp x (i + 1)) := by
    rw [HY.out]
    simp [yp, vp]
   rw [e1] at hm1
   have HM1 := za.mk hm1
   have HB1 : za (Below w.heap.size w w1) := ⟨(HB.out.alloc HB.out.size _).grown hg1 (by have := HB.out.size; simp; omega) (fun k hk => HM.out.base_le k hk)⟩
   have HY1 : za (y / 256 = x / 256 ^ (i + 1)) := ⟨by rw [HY.out, zct]⟩
   clear hm1 hg1 e1 HM HB HL HY
   go_wp2
   go_roundg (gk - 1)
   case measure => omega
   case rel => exact ⟨i + 1, y / 256, by go_num, rfl, ⟨by omega, HY1.out, by omega, by omega⟩, HM1, HB1⟩
  ·obtain rfl : i = 4 := by omega
   have hcs := HM.out.to_string Tryz.underlying41 Tryz.underlying5 Tryz.underlying9
   go_wp2
   go_ret
   exact ⟨QM HR.out, HB.out⟩
end Go.Proofs.YtepipnpfggnadaaGreat.Q
