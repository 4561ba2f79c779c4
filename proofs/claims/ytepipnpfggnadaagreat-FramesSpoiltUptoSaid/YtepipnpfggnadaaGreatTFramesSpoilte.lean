/- Texts of this session laid together (shrink.py): what the claim's law rests on. -/
import Derived.Below
import Derived.Deep.Draws
import Derived.Deep.AppendLies
import Derived.Maps.AppendAt
import Derived.OwnWalk
import Derived.Laws.BytesArg
import Derived.Laws.MakeOwn
import Derived.Laws.OwnMore
import Derived.Deep.OwnRows
import Derived.Tactics
import Derived.Lib.ConvBytes
import Derived.Laws.Slices
import Derived.WalkKit
import Derived.KernelRfl
import Derived.RowKit3
import Derived.Deep.LoopGhost
import Derived.Deep.QuietTactic
import Derived.BigQuiet
import Derived.WideLaws
import Derived.Deep.DeepCutAuto
import Derived.Deep.CutBlock
import Derived.Deep.RegionHeld3
import Derived.Laws.Rows
import Derived.Lib.AppendStr
import Derived.ArgAppend
import Derived.Laws.IdiomCopy
import Derived.RowKit
import Derived.OrdersHeld
import Derived.Laws.BitsLemmas
import Derived.Laws.StructEq
import Derived.Test.YtepipnpfggnadaaGreatProg
import Derived.WalkMore
import Derived.Lib.Strings
import Derived.Test.YtepipnpfggnadaaGreatTFramesSpoiltd
set_option linter.unusedVariables false
set_option linter.unusedSimpArgs false
set_option maxRecDepth 100000
set_option maxHeartbeats 8000000
open Bool renaming true → O, false → Y
open List renaming setIfInBounds_toArray → zcT
open List renaming set_cons_zero → zcU
open List renaming set_cons_succ → zcV
open List renaming map_toArray → zcW
open Option renaming bind_eq_some_iff → zcX
open Go.World renaming block_lt_of_cell? → zcY
open Bool renaming eq_false_iff → zcZ
open List renaming length_append → zc0
namespace Go.Proofs.YtepipnpfggnadaaGreat.Q
open Go.RowKit Go.Proofs.YtepipnpfggnadaaGreatW.PrintWords Go.Proofs.YtepipnpfggnadaaGreatW.PrintLast Go.Proofs.YtepipnpfggnadaaGreatW.PrintMore
attribute [local go_sem] ja q8 jE jL qs qz q7 qZ
def xL.f (k : Nat)  (a1_0 : Int) (a1_1 : Int) (a1_2 : Int) (a1_3 : Int) (a1_4 : Int) (l1_5 : List ByteArray) (l1_6 : List (S52)) (l1_7 : List (S46)) (l1_8 : List (S86)) (l1_9 : List (S77)) : Option (ByteArray) := (yL.f k l1_8).bind fun bt417 => ((yo.f k l1_9).bind fun bt419 => ((zx.f k (([a1_4] : List Int))).bind fun t424 => (if t424.size + bt417.1.size ≤ 9223372036854775807 then (if (t424 ++ bt417.1).size + bt419.1.size ≤ 9223372036854775807 then (some ((t424 ++ bt417.1) ++ bt419.1)) else (none)) else (none))))
theorem xL.calls (k : Nat)  (a1_0 : Int) (a1_1 : Int) (a1_2 : Int) (a1_3 : Int) (a1_4 : Int) (A1_5 : Option Addr) (c1_5 : Nat) (l1_5 : List ByteArray) (A1_6 : Option Addr) (c1_6 : Nat) (l1_6 : List (S52)) (A1_7 : Option Addr) (c1_7 : Nat) (l1_7 : List (S46)) (A1_8 : Option Addr) (c1_8 : Nat) (l1_8 : List (S86)) (A1_9 : Option Addr) (c1_9 : Nat) (l1_9 : List (S77)) (r : ByteArray) (w : World) (hr1_5 : Kd.C Kd.string w A1_5 l1_5.length l1_5) (hc1_5 : l1_5.length ≤ c1_5) (hr1_6 : Kd.C k52 w A1_6 l1_6.length l1_6) (hc1_6 : l1_6.length ≤ c1_6) (hr1_7 : Kd.C k46 w A1_7 l1_7.length l1_7) (hc1_7 : l1_7.length ≤ c1_7) (hr1_8 : Kd.C k86 w A1_8 l1_8.length l1_8) (hc1_8 : l1_8.length ≤ c1_8) (hr1_9 : Kd.C k77 w A1_9 l1_9.length l1_9) (hc1_9 : l1_9.length ≤ c1_9) (h : xL.f k a1_0 a1_1 a1_2 a1_3 a1_4 l1_5 l1_6 l1_7 l1_8 l1_9 = some r) :
  Calls Tryz.prog 62 #[.agg #[], .agg #[.int .i64 a1_0, .int .i64 a1_1, .int .i64 a1_2, .int .i64 a1_3, .int .i64 a1_4, .slice A1_5 l1_5.length c1_5, .slice A1_6 l1_6.length c1_6, .slice A1_7 l1_7.length c1_7, .slice A1_8 l1_8.length c1_8, .slice A1_9 l1_9.length c1_9]] w fun e w' => e = .returned (.string r) ∧ Below w.heap.size w w' := by
 have hu95 := Tryz.underlying95
 have hu28 := Tryz.underlying28
 have HR1_5 := za.mk hr1_5
 have HC1_5 := za.mk hc1_5
 clear hr1_5 hc1_5
 have HR1_6 := za.mk hr1_6
 have HC1_6 := za.mk hc1_6
 clear hr1_6 hc1_6
 have HR1_7 := za.mk hr1_7
 have HC1_7 := za.mk hc1_7
 clear hr1_7 hc1_7
 have HR1_8 := za.mk hr1_8
 have HC1_8 := za.mk hc1_8
 clear hr1_8 hc1_8
 have HR1_9 := za.mk hr1_9
 have HC1_9 := za.mk hc1_9
 clear hr1_9 hc1_9
 have HB := za.mk (Below.refl w.heap.size w)
 have H : ((yL.f k l1_8).bind fun bt417 => ((yo.f k l1_9).bind fun bt419 => ((zx.f k (([a1_4] : List Int))).bind fun t424 => (if t424.size + bt417.1.size ≤ 9223372036854775807 then (if (t424 ++ bt417.1).size + bt419.1.size ≤ 9223372036854775807 then (some ((t424 ++ bt417.1) ++ bt419.1)) else (none)) else (none))))) = some r := h
 clear h
 replace H := zcX.mp H
 obtain ⟨⟨t417, t418⟩, A30, H⟩ := H
 replace H : ((yo.f k l1_9).bind fun bt419 => ((zx.f k (([a1_4] : List Int))).bind fun t424 => (if t424.size + t417.size ≤ 9223372036854775807 then (if (t424 ++ t417).size + bt419.1.size ≤ 9223372036854775807 then (some ((t424 ++ t417) ++ bt419.1)) else (none)) else (none)))) = some r := H
 have A3 := za.mk A30
 clear A30
 replace H := zcX.mp H
 obtain ⟨⟨t419, t420⟩, A40, H⟩ := H
 replace H : ((zx.f k (([a1_4] : List Int))).bind fun t424 => (if t424.size + t417.size ≤ 9223372036854775807 then (if (t424 ++ t417).size + t419.size ≤ 9223372036854775807 then (some ((t424 ++ t417) ++ t419)) else (none)) else (none))) = some r := H
 have A4 := za.mk A40
 clear A40
 obtain ⟨y421, hy421⟩ : ∃ y_ : List Int, y_ = (([a1_4] : List Int)) := ⟨_, rfl⟩
 replace H : ((zx.f k y421).bind fun t424 => (if t424.size + t417.size ≤ 9223372036854775807 then (if (t424 ++ t417).size + t419.size ≤ 9223372036854775807 then (some ((t424 ++ t417) ++ t419)) else (none)) else (none))) = some r := by first | (rw [hy421]; with_reducible exact H) | (have H2_ := (Option.bind_some _ _).symm.trans H; rw [hy421]; with_reducible exact H2_) | (have H2_ := (Option.bind_some _ _).symm.trans H; with_reducible exact H2_) | with_reducible exact H | (rw [hy421]; exact H) | exact H
 have Ny421 := za.mk hy421
 clear hy421
 replace H := zcX.mp H
 obtain ⟨t424, A50, H⟩ := H
 replace H : (if t424.size + t417.size ≤ 9223372036854775807 then (if (t424 ++ t417).size + t419.size ≤ 9223372036854775807 then (some ((t424 ++ t417) ++ t419)) else (none)) else (none)) = some r := H
 have A5 := za.mk A50
 clear A50
 by_cases c6 : t424.size + t417.size ≤ 9223372036854775807
 ·rw [if_pos c6] at H
  have c6b0 := eq_true c6
  have c6b1 : decide (t424.size + t417.size ≤ 9223372036854775807) = true := decide_eq_true c6
  try have c6b2 : (9223372036854775807 < t424.size + t417.size) = False := eq_false (Nat.not_lt.2 c6)
  by_cases c7 : (t424 ++ t417).size + t419.size ≤ 9223372036854775807
  ·rw [if_pos c7] at H
   have c7b0 := eq_true c7
   have c7b1 : decide ((t424 ++ t417).size + t419.size ≤ 9223372036854775807) = true := decide_eq_true c7
   try have c7b2 : (9223372036854775807 < (t424 ++ t417).size + t419.size) = False := eq_false (Nat.not_lt.2 c7)
   try (have c7b3 := c7b2; simp only [ByteArray.size_append] at c7b3)
   obtain rfl := Option.some.inj H
   go_enter Tryz.func62, Tryz.ntmps62
   go_wp2_with (first | ((with_reducible refine zI (N := 2) rfl ?_); refine z6 ?hg (N := 2) ?hd (cs := #[]) (t := 95) ?hr ?_; (case hd => rfl); (case hg => rfl); (case hr => first | (go_simp; done) | (go_simp; rfl)); intro gb415 hg w8 hbox hb; have n0_ := za.mk (zp (by repeat (first | (with_reducible first | exact HB.out | apply zc | apply zb | apply zd) | exact HB.out)) hb); have n1_ := za.mk (hbox); have n2_ := za.mk ((by rw [hg]; exact (zF (by repeat (first | (with_reducible first | exact HB.out | apply zc | apply zb | apply zd) | exact HB.out))) : w.heap.size ≤ gb415)); have n3_ := za.mk ((by rw [hg]; exact (zF (by repeat (first | (with_reducible first | exact HB.out | apply zc | apply zb | apply zd) | exact HB.out))) : w.heap.size ≤ gb415)); clear HB; have HB := n0_; have BK415 := n1_; have GW415 := n2_; have GE415 := n3_; clear n0_ n1_ n2_ n3_; clear hb hbox hg) | ((with_reducible refine zI (N := 3) rfl ?_); refine z6 ?hg (N := 3) ?hd (cs := #[.int .i64 a1_0, .int .i64 a1_1, .int .i64 a1_2, .int .i64 a1_3, .int .i64 a1_4, .slice A1_5 l1_5.length c1_5, .slice A1_6 l1_6.length c1_6, .slice A1_7 l1_7.length c1_7, .slice A1_8 l1_8.length c1_8, .slice A1_9 l1_9.length c1_9]) (t := 28) ?hr ?_; (case hd => rfl); (case hg => rfl); (case hr => first | (go_simp; done) | (go_simp; rfl)); intro gb416 hg w9 hbox hb; have n0_ := za.mk (zN (g := gb415) (o := .cells #[] 95 (0, 0)) (by (with_reducible repeat (first | refine zG ?_ _ | refine zK ?_ | refine zH ?_ _)); exact BK415.out) hb); have n1_ := za.mk (zp (by repeat (first | (with_reducible first | exact HB.out | apply zc | apply zb | apply zd | refine zq ?_ GE415.out) | exact HB.out)) hb); have n2_ := za.mk (hbox); have n3_ := za.mk ((by rw [hg]; exact (zF (by repeat (first | (with_reducible first | exact HB.out | apply zc | apply zb | apply zd | refine zq ?_ GE415.out) | exact HB.out))) : w.heap.size ≤ gb416)); have n4_ := za.mk ((by rw [hg]; exact (zF (by repeat (first | (with_reducible first | exact HB.out | apply zc | apply zb | apply zd | refine zq ?_ GE415.out) | exact HB.out))) : w.heap.size ≤ gb416)); have n5_ := za.mk ((by rw [hg]; exact Nat.ne_of_lt (xl (g := gb415) (o := .cells #[] 95 (0, 0)) (by (with_reducible repeat (first | refine zG ?_ _ | refine zK ?_ | refine zH ?_ _)); exact BK415.out)) : gb415 ≠ gb416)); have n6_ := za.mk ((by rw [hg]; exact Nat.ne_of_gt (xl (g := gb415) (o := .cells #[] 95 (0, 0)) (by (with_reducible repeat (first | refine zG ?_ _ | refine zK ?_ | refine zH ?_ _)); exact BK415.out)) : gb416 ≠ gb415)); clear BK415; clear HB; have BK415 := n0_; have HB := n1_; have BK416 := n2_; have GW416 := n3_; have GE416 := n4_; have NB415_416 := n5_; have NB416_415 := n6_; clear n0_ n1_ n2_ n3_ n4_ n5_ n6_; clear hb hbox hg; have hnb10 := NB416_415.out; have hnc10 := NB415_416.out; have hcz11_0 : w9.cell? ⟨gb416, 0, none⟩ = some (.int .i64 a1_0) := (zj BK416.out 0).trans rfl; have hcz11_1 : w9.cell? ⟨gb416, 1, none⟩ = some (.int .i64 a1_1) := (zj BK416.out 1).trans rfl; have hcz11_2 : w9.cell? ⟨gb416, 2, none⟩ = some (.int .i64 a1_2) := (zj BK416.out 2).trans rfl; have hcz11_3 : w9.cell? ⟨gb416, 3, none⟩ = some (.int .i64 a1_3) := (zj BK416.out 3).trans rfl; have hcz11_4 : w9.cell? ⟨gb416, 4, none⟩ = some (.int .i64 a1_4) := (zj BK416.out 4).trans rfl; have hcz11_5 : w9.cell? ⟨gb416, 5, none⟩ = some (.slice A1_5 l1_5.length c1_5) := (zj BK416.out 5).trans rfl; have hcz11_6 : w9.cell? ⟨gb416, 6, none⟩ = some (.slice A1_6 l1_6.length c1_6) := (zj BK416.out 6).trans rfl; have hcz11_7 : w9.cell? ⟨gb416, 7, none⟩ = some (.slice A1_7 l1_7.length c1_7) := (zj BK416.out 7).trans rfl; have hcz11_8 : w9.cell? ⟨gb416, 8, none⟩ = some (.slice A1_8 l1_8.length c1_8) := (zj BK416.out 8).trans rfl; have hcz11_9 : w9.cell? ⟨gb416, 9, none⟩ = some (.slice A1_9 l1_9.length c1_9) := (zj BK416.out 9).trans rfl; have hfz11_0 := zk BK416.out 0; have hfz11_1 := zk BK416.out 1; have hfz11_2 := zk BK416.out 2; have hfz11_3 := zk BK416.out 3; have hfz11_4 := zk BK416.out 4; have hfz11_5 := zk BK416.out 5; have hfz11_6 := zk BK416.out 6; have hfz11_7 := zk BK416.out 7; have hfz11_8 := zk BK416.out 8; have hfz11_9 := zk BK416.out 9) | ((with_reducible refine zy (f := 105) rfl ?_); refine zS (some 12) rfl rfl Tryz.func105 (by kernel_rfl) rfl #[.slice A1_8 l1_8.length c1_8] rfl (by (try simp only [zcW, List.map_cons, List.map_nil]); first | done | rfl | (simp only [List.length_drop, List.length_take]; rfl)) ?_; (with_reducible refine (yL.calls k _ _ l1_8 t417 t418 _ ?side1 ?side2 A3.out).mono ?_); (case side1 => repeat (first | exact (Kd.C_below HR1_8.out HB.out) | (with_reducible refine Kd.C_alloc ?_ _) | (with_reducible refine Kd.C_drewN ?_ _) | (with_reducible refine Kd.C_drew ?_))); (case side2 => exact HC1_8.out); rintro e w12 ⟨rfl, hb⟩; refine ⟨_, rfl, ?_⟩; have n0_ := za.mk (zN (g := gb415) (o := .cells #[] 95 (0, 0)) (by (with_reducible repeat (first | refine zG ?_ _ | refine zK ?_ | refine zH ?_ _)); exact BK415.out) hb); have n1_ := za.mk (zN (g := gb416) (o := .cells #[.int .i64 a1_0, .int .i64 a1_1, .int .i64 a1_2, .int .i64 a1_3, .int .i64 a1_4, .slice A1_5 l1_5.length c1_5, .slice A1_6 l1_6.length c1_6, .slice A1_7 l1_7.length c1_7, .slice A1_8 l1_8.length c1_8, .slice A1_9 l1_9.length c1_9] 28 (0, 0)) (by (with_reducible repeat (first | refine zG ?_ _ | refine zK ?_ | refine zH ?_ _)); exact BK416.out) hb); have n2_ := za.mk (zp (by repeat (first | (with_reducible first | exact HB.out | apply zc | apply zb | apply zd | refine zq ?_ GE415.out | refine zq ?_ GE416.out) | exact HB.out)) hb); clear BK415; clear BK416; clear HB; have BK415 := n0_; have BK416 := n1_; have HB := n2_; clear n0_ n1_ n2_; (try clear hb); (try clear hb2); (try clear hk); (try clear hi); have hcz13_0 : w12.cell? ⟨gb416, 0, none⟩ = some (.int .i64 a1_0) := (zj BK416.out 0).trans rfl; have hcz13_1 : w12.cell? ⟨gb416, 1, none⟩ = some (.int .i64 a1_1) := (zj BK416.out 1).trans rfl; have hcz13_2 : w12.cell? ⟨gb416, 2, none⟩ = some (.int .i64 a1_2) := (zj BK416.out 2).trans rfl; have hcz13_3 : w12.cell? ⟨gb416, 3, none⟩ = some (.int .i64 a1_3) := (zj BK416.out 3).trans rfl; have hcz13_4 : w12.cell? ⟨gb416, 4, none⟩ = some (.int .i64 a1_4) := (zj BK416.out 4).trans rfl; have hcz13_5 : w12.cell? ⟨gb416, 5, none⟩ = some (.slice A1_5 l1_5.length c1_5) := (zj BK416.out 5).trans rfl; have hcz13_6 : w12.cell? ⟨gb416, 6, none⟩ = some (.slice A1_6 l1_6.length c1_6) := (zj BK416.out 6).trans rfl; have hcz13_7 : w12.cell? ⟨gb416, 7, none⟩ = some (.slice A1_7 l1_7.length c1_7) := (zj BK416.out 7).trans rfl; have hcz13_8 : w12.cell? ⟨gb416, 8, none⟩ = some (.slice A1_8 l1_8.length c1_8) := (zj BK416.out 8).trans rfl; have hcz13_9 : w12.cell? ⟨gb416, 9, none⟩ = some (.slice A1_9 l1_9.length c1_9) := (zj BK416.out 9).trans rfl; have hfz13_0 := zk BK416.out 0; have hfz13_1 := zk BK416.out 1; have hfz13_2 := zk BK416.out 2; have hfz13_3 := zk BK416.out 3; have hfz13_4 := zk BK416.out 4; have hfz13_5 := zk BK416.out 5; have hfz13_6 := zk BK416.out 6; have hfz13_7 := zk BK416.out 7; have hfz13_8 := zk BK416.out 8; have hfz13_9 := zk BK416.out 9) | ((with_reducible refine zy (f := 106) rfl ?_); refine zS (some 18) rfl rfl Tryz.func106 (by kernel_rfl) rfl #[.slice A1_9 l1_9.length c1_9] rfl (by (try simp only [zcW, List.map_cons, List.map_nil]); first | done | rfl | (simp only [List.length_drop, List.length_take]; rfl)) ?_; (with_reducible refine (yo.calls k _ _ l1_9 t419 t420 _ ?side1 ?side2 A4.out).mono ?_); (case side1 => repeat (first | exact (Kd.C_below HR1_9.out HB.out) | (with_reducible refine Kd.C_alloc ?_ _) | (with_reducible refine Kd.C_drewN ?_ _) | (with_reducible refine Kd.C_drew ?_))); (case side2 => exact HC1_9.out); rintro e w14 ⟨rfl, hb⟩; refine ⟨_, rfl, ?_⟩; have n0_ := za.mk (zN (g := gb415) (o := .cells #[] 95 (0, 0)) (by (with_reducible repeat (first | refine zG ?_ _ | refine zK ?_ | refine zH ?_ _)); exact BK415.out) hb); have n1_ := za.mk (zN (g := gb416) (o := .cells #[.int .i64 a1_0, .int .i64 a1_1, .int .i64 a1_2, .int .i64 a1_3, .int .i64 a1_4, .slice A1_5 l1_5.length c1_5, .slice A1_6 l1_6.length c1_6, .slice A1_7 l1_7.length c1_7, .slice A1_8 l1_8.length c1_8, .slice A1_9 l1_9.length c1_9] 28 (0, 0)) (by (with_reducible repeat (first | refine zG ?_ _ | refine zK ?_ | refine zH ?_ _)); exact BK416.out) hb); have n2_ := za.mk (zp (by repeat (first | (with_reducible first | exact HB.out | apply zc | apply zb | apply zd | refine zq ?_ GE415.out | refine zq ?_ GE416.out) | exact HB.out)) hb); clear BK415; clear BK416; clear HB; have BK415 := n0_; have BK416 := n1_; have HB := n2_; clear n0_ n1_ n2_; (try clear hb); (try clear hb2); (try clear hk); (try clear hi); have hcz15_0 : w14.cell? ⟨gb416, 0, none⟩ = some (.int .i64 a1_0) := (zj BK416.out 0).trans rfl; have hcz15_1 : w14.cell? ⟨gb416, 1, none⟩ = some (.int .i64 a1_1) := (zj BK416.out 1).trans rfl; have hcz15_2 : w14.cell? ⟨gb416, 2, none⟩ = some (.int .i64 a1_2) := (zj BK416.out 2).trans rfl; have hcz15_3 : w14.cell? ⟨gb416, 3, none⟩ = some (.int .i64 a1_3) := (zj BK416.out 3).trans rfl; have hcz15_4 : w14.cell? ⟨gb416, 4, none⟩ = some (.int .i64 a1_4) := (zj BK416.out 4).trans rfl; have hcz15_5 : w14.cell? ⟨gb416, 5, none⟩ = some (.slice A1_5 l1_5.length c1_5) := (zj BK416.out 5).trans rfl; have hcz15_6 : w14.cell? ⟨gb416, 6, none⟩ = some (.slice A1_6 l1_6.length c1_6) := (zj BK416.out 6).trans rfl; have hcz15_7 : w14.cell? ⟨gb416, 7, none⟩ = some (.slice A1_7 l1_7.length c1_7) := (zj BK416.out 7).trans rfl; have hcz15_8 : w14.cell? ⟨gb416, 8, none⟩ = some (.slice A1_8 l1_8.length c1_8) := (zj BK416.out 8).trans rfl; have hcz15_9 : w14.cell? ⟨gb416, 9, none⟩ = some (.slice A1_9 l1_9.length c1_9) := (zj BK416.out 9).trans rfl; have hfz15_0 := zk BK416.out 0; have hfz15_1 := zk BK416.out 1; have hfz15_2 := zk BK416.out 2; have hfz15_3 := zk BK416.out 3; have hfz15_4 := zk BK416.out 4; have hfz15_5 := zk BK416.out 5; have hfz15_6 := zk BK416.out 6; have hfz15_7 := zk BK416.out 7; have hfz15_8 := zk BK416.out 8; have hfz15_9 := zk BK416.out 9) | ((with_reducible refine zI (N := 23) rfl ?_); refine Kd.R_lit (Kd.int .i64) _ 3 ?hg (N := 23) ?hd (xs := ([a1_4] : List Int)) (inner := [.int .i64 a1_4]) (ok := fun _ => True) (okp := fun _ => True) ?hr ?hp (fun _ hk => hk) trivial (Below.refl _ _) (Nat.le_refl _) (by simp) ?_; (case hd => rfl); (case hg => rfl); (case hr => first | (go_simp; done) | (go_simp; rfl)); (case hp => exact (zQ.one (show Kd.M (Kd.int .i64) _ _ _ a1_4 [.int .i64 a1_4] from rfl) (zQ.none _ _))); intro v422 w16 ho17 hb hg_ hnew_; clear hg_ hnew_; (first | rw [← Ny421.out] at ho17 | (simp only [Int.reduceToNat] at ho17; rw [← Ny421.out] at ho17)); have n0_ := za.mk (Kd.R_lower ho17 (zF (by repeat (first | (with_reducible first | exact HB.out | apply zc | apply zb | apply zd | refine zq ?_ GE415.out | refine zq ?_ GE416.out) | exact HB.out)))); have n1_ := za.mk (zN (g := gb415) (o := .cells #[] 95 (0, 0)) (by (with_reducible repeat (first | refine zG ?_ _ | refine zK ?_ | refine zH ?_ _)); exact BK415.out) hb); have n2_ := za.mk (zN (g := gb416) (o := .cells #[.int .i64 a1_0, .int .i64 a1_1, .int .i64 a1_2, .int .i64 a1_3, .int .i64 a1_4, .slice A1_5 l1_5.length c1_5, .slice A1_6 l1_6.length c1_6, .slice A1_7 l1_7.length c1_7, .slice A1_8 l1_8.length c1_8, .slice A1_9 l1_9.length c1_9] 28 (0, 0)) (by (with_reducible repeat (first | refine zG ?_ _ | refine zK ?_ | refine zH ?_ _)); exact BK416.out) hb); have n3_ := za.mk (zp (by repeat (first | (with_reducible first | exact HB.out | apply zc | apply zb | apply zd | refine zq ?_ GE415.out | refine zq ?_ GE416.out) | exact HB.out)) hb); clear BK415; clear BK416; clear HB; have HO423 := n0_; have BK415 := n1_; have BK416 := n2_; have HB := n3_; clear n0_ n1_ n2_ n3_; clear hb ho17; obtain ⟨Ao18, co18, eo18⟩ := Kd.R_slice HO423.out; subst eo18) | ((with_reducible refine zy (f := 18) rfl ?_); refine zS (some 24) rfl rfl Tryz.func18 (by kernel_rfl) rfl #[.slice Ao18 y421.length co18] rfl (by (try simp only [zcW, List.map_cons, List.map_nil]); first | done | rfl | (simp only [List.length_drop, List.length_take]; rfl)) ?_; (with_reducible refine (zx.calls k _ _ y421 t424 _ ?side1 ?side2 A5.out).mono ?_); (case side1 => repeat (first | exact (Kd.R_reads' HO423.out).2.2 | (with_reducible refine Kd.C_alloc ?_ _) | (with_reducible refine Kd.C_drewN ?_ _) | (with_reducible refine Kd.C_drew ?_))); (case side2 => exact (Kd.R_reads' HO423.out).2.1); rintro e w19 ⟨rfl, hb⟩; refine ⟨_, rfl, ?_⟩; have n0_ := za.mk (Kd.R_below (by (with_reducible repeat (first | apply Kd.R_alloc | apply Kd.R_drewN | apply Kd.R_drew)); exact HO423.out) hb); have n1_ := za.mk (zN (g := gb415) (o := .cells #[] 95 (0, 0)) (by (with_reducible repeat (first | refine zG ?_ _ | refine zK ?_ | refine zH ?_ _)); exact BK415.out) hb); have n2_ := za.mk (zN (g := gb416) (o := .cells #[.int .i64 a1_0, .int .i64 a1_1, .int .i64 a1_2, .int .i64 a1_3, .int .i64 a1_4, .slice A1_5 l1_5.length c1_5, .slice A1_6 l1_6.length c1_6, .slice A1_7 l1_7.length c1_7, .slice A1_8 l1_8.length c1_8, .slice A1_9 l1_9.length c1_9] 28 (0, 0)) (by (with_reducible repeat (first | refine zG ?_ _ | refine zK ?_ | refine zH ?_ _)); exact BK416.out) hb); have n3_ := za.mk (zp (by repeat (first | (with_reducible first | exact HB.out | apply zc | apply zb | apply zd | refine zq ?_ GE415.out | refine zq ?_ GE416.out) | exact HB.out)) hb); clear HO423; clear BK415; clear BK416; clear HB; have HO423 := n0_; have BK415 := n1_; have BK416 := n2_; have HB := n3_; clear n0_ n1_ n2_ n3_; (try clear hb); (try clear hb2); (try clear hk); (try clear hi)))
   go_ret
   exact ⟨by first | rfl | (simp [zn, zo] <;> rfl) | (simp [*, zn, zo] <;> rfl), by repeat (first | (with_reducible first | exact HB.out | apply zc | apply zb | apply zd | refine zq ?_ GE415.out | refine zq ?_ GE416.out) | exact HB.out)⟩
  ·rw [if_neg c7] at H
   exact absurd H (by simp)
 ·rw [if_neg c6] at H
  exact absurd H (by simp)
def xN.f (k : Nat) (a0 a1 a2 a3 a4 : Int) (l5 : List ByteArray) (l6 : List S52) (l7 : List S46) (l8 : List S86) (l9 : List S77) : Option ByteArray := if a0 = 1 then xo.f k a0 a1 a2 a3 a4 l5 l6 l7 l8 l9 else if a0 = 2 then xf.f k a0 a1 a2 a3 a4 l5 l6 l7 l8 l9 else if a0 = 3 then xH.f k a0 a1 a2 a3 a4 l5 l6 l7 l8 l9 else if a0 = 4 then y8.f k a0 a1 a2 a3 a4 l5 l6 l7 l8 l9 else xL.f k a0 a1 a2 a3 a4 l5 l6 l7 l8 l9
theorem xN.calls (k : Nat) (a0 a1 a2 a3 a4 : Int) (A5 : Option Addr) (c5 : Nat) (l5 : List ByteArray) (A6 : Option Addr) (c6 : Nat) (l6 : List S52) (A7 : Option Addr) (c7 : Nat) (l7 : List S46) (A8 : Option Addr) (c8 : Nat) (l8 : List S86) (A9 : Option Addr) (c9 : Nat) (l9 : List S77) (r : ByteArray) (w : World) (hr5 : Kd.C Kd.string w A5 l5.length l5) (hc5 : l5.length ≤ c5) (hr6 : Kd.C k52 w A6 l6.length l6) (hc6 : l6.length ≤ c6) (hr7 : Kd.C k46 w A7 l7.length l7) (hc7 : l7.length ≤ c7) (hr8 : Kd.C k86 w A8 l8.length l8) (hc8 : l8.length ≤ c8) (hr9 : Kd.C k77 w A9 l9.length l9) (hc9 : l9.length ≤ c9) (h : xN.f k a0 a1 a2 a3 a4 l5 l6 l7 l8 l9 = some r) :
  Calls Tryz.prog 19 #[.agg #[.int .i64 a0, .int .i64 a1, .int .i64 a2, .int .i64 a3, .int .i64 a4, .slice A5 l5.length c5, .slice A6 l6.length c6, .slice A7 l7.length c7, .slice A8 l8.length c8, .slice A9 l9.length c9]] w fun e w' => e = .returned (.string r) ∧ Below w.heap.size w w' := by
 have HB := za.mk (Below.refl w.heap.size w)
 have HR5 := za.mk hr5
 have HL5 := za.mk hc5
 have HR6 := za.mk hr6
 have HL6 := za.mk hc6
 have HR7 := za.mk hr7
 have HL7 := za.mk hc7
 have HR8 := za.mk hr8
 have HL8 := za.mk hc8
 have HR9 := za.mk hr9
 have HL9 := za.mk hc9
 clear hr5 hc5 hr6 hc6 hr7 hc7 hr8 hc8 hr9 hc9
 unfold xN.f at h
 by_cases t1 : a0 = 1
 case pos =>
  subst t1
  replace h : xo.f k 1 a1 a2 a3 a4 l5 l6 l7 l8 l9 = some r := h
  have HX := za.mk h
  clear h
  go_enter Tryz.func19, Tryz.ntmps19
  go_wp2_with (first | ((with_reducible refine zI (N := 1) rfl ?_); refine z6 ?hg (N := 1) ?hd (cs := #[.int .i64 1, .int .i64 a1, .int .i64 a2, .int .i64 a3, .int .i64 a4, .slice A5 l5.length c5, .slice A6 l6.length c6, .slice A7 l7.length c7, .slice A8 l8.length c8, .slice A9 l9.length c9]) (t := 28) ?hr ?_; (case hd => rfl); (case hg => rfl); (case hr => first | (go_simp; done) | (go_simp; rfl)); intro g_f hg_ w1_ hbox_ hb_; have n0_ := za.mk (zp HB.out hb_); have n1_ := za.mk ((by rw [hg_]; exact HB.out.size : w.heap.size ≤ g_f)); have n2_ := za.mk (hbox_); (try clear HB); (try clear GE_f); (try clear BK_f); have HB := n0_; have GE_f := n1_; have BK_f := n2_; clear n0_ n1_ n2_; clear hbox_ hb_ hg_; obtain ⟨hc_f_0, hc_f_1, hc_f_2, hc_f_3, hc_f_4, hc_f_5, hc_f_6, hc_f_7, hc_f_8, hc_f_9, hf_f_0, hf_f_1, hf_f_2, hf_f_3, hf_f_4, hf_f_5, hf_f_6, hf_f_7, hf_f_8, hf_f_9⟩ := xW BK_f.out) | (go_at_call 58; (with_reducible refine (xo.calls k 1 a1 a2 a3 a4 A5 c5 l5 A6 c6 l6 A7 c7 l7 A8 c8 l8 A9 c9 l9 r _ ?s5 HL5.out ?s6 HL6.out ?s7 HL7.out ?s8 HL8.out ?s9 HL9.out HX.out).mono ?_); (case s5 => exact Kd.C_below HR5.out HB.out); (case s6 => exact Kd.C_below HR6.out HB.out); (case s7 => exact Kd.C_below HR7.out HB.out); (case s8 => exact Kd.C_below HR8.out HB.out); (case s9 => exact Kd.C_below HR9.out HB.out); rintro e_ w2_ ⟨rfl, hb_⟩; have n0_ := za.mk (zN BK_f.out hb_); have n1_ := za.mk (zp HB.out hb_); (try clear BK_f); (try clear HB); have BK_f := n0_; have HB := n1_; clear n0_ n1_; (try clear hc_f_0 hc_f_1 hc_f_2 hc_f_3 hc_f_4 hc_f_5 hc_f_6 hc_f_7 hc_f_8 hc_f_9 hf_f_0 hf_f_1 hf_f_2 hf_f_3 hf_f_4 hf_f_5 hf_f_6 hf_f_7 hf_f_8 hf_f_9); (try clear hb_); obtain ⟨hc_f_0, hc_f_1, hc_f_2, hc_f_3, hc_f_4, hc_f_5, hc_f_6, hc_f_7, hc_f_8, hc_f_9, hf_f_0, hf_f_1, hf_f_2, hf_f_3, hf_f_4, hf_f_5, hf_f_6, hf_f_7, hf_f_8, hf_f_9⟩ := xW BK_f.out))
  (try simp only [Exit.inBlock, Exit.then])
  go_ret
  exact ⟨rfl, HB.out⟩
 rw [if_neg t1] at h
 by_cases t2 : a0 = 2
 case pos =>
  subst t2
  replace h : xf.f k 2 a1 a2 a3 a4 l5 l6 l7 l8 l9 = some r := h
  have HX := za.mk h
  clear h
  go_enter Tryz.func19, Tryz.ntmps19
  go_wp2_with (first | ((with_reducible refine zI (N := 1) rfl ?_); refine z6 ?hg (N := 1) ?hd (cs := #[.int .i64 2, .int .i64 a1, .int .i64 a2, .int .i64 a3, .int .i64 a4, .slice A5 l5.length c5, .slice A6 l6.length c6, .slice A7 l7.length c7, .slice A8 l8.length c8, .slice A9 l9.length c9]) (t := 28) ?hr ?_; (case hd => rfl); (case hg => rfl); (case hr => first | (go_simp; done) | (go_simp; rfl)); intro g_f hg_ w1_ hbox_ hb_; have n0_ := za.mk (zp HB.out hb_); have n1_ := za.mk ((by rw [hg_]; exact HB.out.size : w.heap.size ≤ g_f)); have n2_ := za.mk (hbox_); (try clear HB); (try clear GE_f); (try clear BK_f); have HB := n0_; have GE_f := n1_; have BK_f := n2_; clear n0_ n1_ n2_; clear hbox_ hb_ hg_; obtain ⟨hc_f_0, hc_f_1, hc_f_2, hc_f_3, hc_f_4, hc_f_5, hc_f_6, hc_f_7, hc_f_8, hc_f_9, hf_f_0, hf_f_1, hf_f_2, hf_f_3, hf_f_4, hf_f_5, hf_f_6, hf_f_7, hf_f_8, hf_f_9⟩ := xW BK_f.out) | (go_at_call 59; (with_reducible refine (xf.calls k 2 a1 a2 a3 a4 A5 c5 l5 A6 c6 l6 A7 c7 l7 A8 c8 l8 A9 c9 l9 r _ ?s5 HL5.out ?s6 HL6.out ?s7 HL7.out ?s8 HL8.out ?s9 HL9.out HX.out).mono ?_); (case s5 => exact Kd.C_below HR5.out HB.out); (case s6 => exact Kd.C_below HR6.out HB.out); (case s7 => exact Kd.C_below HR7.out HB.out); (case s8 => exact Kd.C_below HR8.out HB.out); (case s9 => exact Kd.C_below HR9.out HB.out); rintro e_ w2_ ⟨rfl, hb_⟩; have n0_ := za.mk (zN BK_f.out hb_); have n1_ := za.mk (zp HB.out hb_); (try clear BK_f); (try clear HB); have BK_f := n0_; have HB := n1_; clear n0_ n1_; (try clear hc_f_0 hc_f_1 hc_f_2 hc_f_3 hc_f_4 hc_f_5 hc_f_6 hc_f_7 hc_f_8 hc_f_9 hf_f_0 hf_f_1 hf_f_2 hf_f_3 hf_f_4 hf_f_5 hf_f_6 hf_f_7 hf_f_8 hf_f_9); (try clear hb_); obtain ⟨hc_f_0, hc_f_1, hc_f_2, hc_f_3, hc_f_4, hc_f_5, hc_f_6, hc_f_7, hc_f_8, hc_f_9, hf_f_0, hf_f_1, hf_f_2, hf_f_3, hf_f_4, hf_f_5, hf_f_6, hf_f_7, hf_f_8, hf_f_9⟩ := xW BK_f.out))
  (try simp only [Exit.inBlock, Exit.then])
  go_ret
  exact ⟨rfl, HB.out⟩
 rw [if_neg t2] at h
 by_cases t3 : a0 = 3
 case pos =>
  subst t3
  replace h : xH.f k 3 a1 a2 a3 a4 l5 l6 l7 l8 l9 = some r := h
  have HX := za.mk h
  clear h
  go_enter Tryz.func19, Tryz.ntmps19
  go_wp2_with (first | ((with_reducible refine zI (N := 1) rfl ?_); refine z6 ?hg (N := 1) ?hd (cs := #[.int .i64 3, .int .i64 a1, .int .i64 a2, .int .i64 a3, .int .i64 a4, .slice A5 l5.length c5, .slice A6 l6.length c6, .slice A7 l7.length c7, .slice A8 l8.length c8, .slice A9 l9.length c9]) (t := 28) ?hr ?_; (case hd => rfl); (case hg => rfl); (case hr => first | (go_simp; done) | (go_simp; rfl)); intro g_f hg_ w1_ hbox_ hb_; have n0_ := za.mk (zp HB.out hb_); have n1_ := za.mk ((by rw [hg_]; exact HB.out.size : w.heap.size ≤ g_f)); have n2_ := za.mk (hbox_); (try clear HB); (try clear GE_f); (try clear BK_f); have HB := n0_; have GE_f := n1_; have BK_f := n2_; clear n0_ n1_ n2_; clear hbox_ hb_ hg_; obtain ⟨hc_f_0, hc_f_1, hc_f_2, hc_f_3, hc_f_4, hc_f_5, hc_f_6, hc_f_7, hc_f_8, hc_f_9, hf_f_0, hf_f_1, hf_f_2, hf_f_3, hf_f_4, hf_f_5, hf_f_6, hf_f_7, hf_f_8, hf_f_9⟩ := xW BK_f.out) | (go_at_call 60; (with_reducible refine (xH.calls k 3 a1 a2 a3 a4 A5 c5 l5 A6 c6 l6 A7 c7 l7 A8 c8 l8 A9 c9 l9 r _ ?s5 HL5.out ?s6 HL6.out ?s7 HL7.out ?s8 HL8.out ?s9 HL9.out HX.out).mono ?_); (case s5 => exact Kd.C_below HR5.out HB.out); (case s6 => exact Kd.C_below HR6.out HB.out); (case s7 => exact Kd.C_below HR7.out HB.out); (case s8 => exact Kd.C_below HR8.out HB.out); (case s9 => exact Kd.C_below HR9.out HB.out); rintro e_ w2_ ⟨rfl, hb_⟩; have n0_ := za.mk (zN BK_f.out hb_); have n1_ := za.mk (zp HB.out hb_); (try clear BK_f); (try clear HB); have BK_f := n0_; have HB := n1_; clear n0_ n1_; (try clear hc_f_0 hc_f_1 hc_f_2 hc_f_3 hc_f_4 hc_f_5 hc_f_6 hc_f_7 hc_f_8 hc_f_9 hf_f_0 hf_f_1 hf_f_2 hf_f_3 hf_f_4 hf_f_5 hf_f_6 hf_f_7 hf_f_8 hf_f_9); (try clear hb_); obtain ⟨hc_f_0, hc_f_1, hc_f_2, hc_f_3, hc_f_4, hc_f_5, hc_f_6, hc_f_7, hc_f_8, hc_f_9, hf_f_0, hf_f_1, hf_f_2, hf_f_3, hf_f_4, hf_f_5, hf_f_6, hf_f_7, hf_f_8, hf_f_9⟩ := xW BK_f.out))
  (try simp only [Exit.inBlock, Exit.then])
  go_ret
  exact ⟨rfl, HB.out⟩
 rw [if_neg t3] at h
 by_cases t4 : a0 = 4
 case pos =>
  subst t4
  replace h : y8.f k 4 a1 a2 a3 a4 l5 l6 l7 l8 l9 = some r := h
  have HX := za.mk h
  clear h
  go_enter Tryz.func19, Tryz.ntmps19
  go_wp2_with (first | ((with_reducible refine zI (N := 1) rfl ?_); refine z6 ?hg (N := 1) ?hd (cs := #[.int .i64 4, .int .i64 a1, .int .i64 a2, .int .i64 a3, .int .i64 a4, .slice A5 l5.length c5, .slice A6 l6.length c6, .slice A7 l7.length c7, .slice A8 l8.length c8, .slice A9 l9.length c9]) (t := 28) ?hr ?_; (case hd => rfl); (case hg => rfl); (case hr => first | (go_simp; done) | (go_simp; rfl)); intro g_f hg_ w1_ hbox_ hb_; have n0_ := za.mk (zp HB.out hb_); have n1_ := za.mk ((by rw [hg_]; exact HB.out.size : w.heap.size ≤ g_f)); have n2_ := za.mk (hbox_); (try clear HB); (try clear GE_f); (try clear BK_f); have HB := n0_; have GE_f := n1_; have BK_f := n2_; clear n0_ n1_ n2_; clear hbox_ hb_ hg_; obtain ⟨hc_f_0, hc_f_1, hc_f_2, hc_f_3, hc_f_4, hc_f_5, hc_f_6, hc_f_7, hc_f_8, hc_f_9, hf_f_0, hf_f_1, hf_f_2, hf_f_3, hf_f_4, hf_f_5, hf_f_6, hf_f_7, hf_f_8, hf_f_9⟩ := xW BK_f.out) | (go_at_call 61; (with_reducible refine (y8.calls k 4 a1 a2 a3 a4 A5 c5 l5 A6 c6 l6 A7 c7 l7 A8 c8 l8 A9 c9 l9 r _ ?s5 HL5.out ?s6 HL6.out ?s7 HL7.out ?s8 HL8.out ?s9 HL9.out HX.out).mono ?_); (case s5 => exact Kd.C_below HR5.out HB.out); (case s6 => exact Kd.C_below HR6.out HB.out); (case s7 => exact Kd.C_below HR7.out HB.out); (case s8 => exact Kd.C_below HR8.out HB.out); (case s9 => exact Kd.C_below HR9.out HB.out); rintro e_ w2_ ⟨rfl, hb_⟩; have n0_ := za.mk (zN BK_f.out hb_); have n1_ := za.mk (zp HB.out hb_); (try clear BK_f); (try clear HB); have BK_f := n0_; have HB := n1_; clear n0_ n1_; (try clear hc_f_0 hc_f_1 hc_f_2 hc_f_3 hc_f_4 hc_f_5 hc_f_6 hc_f_7 hc_f_8 hc_f_9 hf_f_0 hf_f_1 hf_f_2 hf_f_3 hf_f_4 hf_f_5 hf_f_6 hf_f_7 hf_f_8 hf_f_9); (try clear hb_); obtain ⟨hc_f_0, hc_f_1, hc_f_2, hc_f_3, hc_f_4, hc_f_5, hc_f_6, hc_f_7, hc_f_8, hc_f_9, hf_f_0, hf_f_1, hf_f_2, hf_f_3, hf_f_4, hf_f_5, hf_f_6, hf_f_7, hf_f_8, hf_f_9⟩ := xW BK_f.out))
  (try simp only [Exit.inBlock, Exit.then])
  go_ret
  exact ⟨rfl, HB.out⟩
 rw [if_neg t4] at h
 have e1 : (a0 == 1) = false := beq_eq_false_iff_ne.mpr t1
 have e2 : (a0 == 2) = false := beq_eq_false_iff_ne.mpr t2
 have e3 : (a0 == 3) = false := beq_eq_false_iff_ne.mpr t3
 have e4 : (a0 == 4) = false := beq_eq_false_iff_ne.mpr t4
 clear t1 t2 t3 t4
 have HX := za.mk h
 clear h
 go_enter Tryz.func19, Tryz.ntmps19
 go_wp2_with (first | ((with_reducible refine zI (N := 1) rfl ?_); refine z6 ?hg (N := 1) ?hd (cs := #[.int .i64 a0, .int .i64 a1, .int .i64 a2, .int .i64 a3, .int .i64 a4, .slice A5 l5.length c5, .slice A6 l6.length c6, .slice A7 l7.length c7, .slice A8 l8.length c8, .slice A9 l9.length c9]) (t := 28) ?hr ?_; (case hd => rfl); (case hg => rfl); (case hr => first | (go_simp; done) | (go_simp; rfl)); intro g_f hg_ w1_ hbox_ hb_; have n0_ := za.mk (zp HB.out hb_); have n1_ := za.mk ((by rw [hg_]; exact HB.out.size : w.heap.size ≤ g_f)); have n2_ := za.mk (hbox_); (try clear HB); (try clear GE_f); (try clear BK_f); have HB := n0_; have GE_f := n1_; have BK_f := n2_; clear n0_ n1_ n2_; clear hbox_ hb_ hg_; obtain ⟨hc_f_0, hc_f_1, hc_f_2, hc_f_3, hc_f_4, hc_f_5, hc_f_6, hc_f_7, hc_f_8, hc_f_9, hf_f_0, hf_f_1, hf_f_2, hf_f_3, hf_f_4, hf_f_5, hf_f_6, hf_f_7, hf_f_8, hf_f_9⟩ := xW BK_f.out) | (go_at_call 62; (with_reducible refine (xL.calls k a0 a1 a2 a3 a4 A5 c5 l5 A6 c6 l6 A7 c7 l7 A8 c8 l8 A9 c9 l9 r _ ?s5 HL5.out ?s6 HL6.out ?s7 HL7.out ?s8 HL8.out ?s9 HL9.out HX.out).mono ?_); (case s5 => exact Kd.C_below HR5.out HB.out); (case s6 => exact Kd.C_below HR6.out HB.out); (case s7 => exact Kd.C_below HR7.out HB.out); (case s8 => exact Kd.C_below HR8.out HB.out); (case s9 => exact Kd.C_below HR9.out HB.out); rintro e_ w2_ ⟨rfl, hb_⟩; have n0_ := za.mk (zN BK_f.out hb_); have n1_ := za.mk (zp HB.out hb_); (try clear BK_f); (try clear HB); have BK_f := n0_; have HB := n1_; clear n0_ n1_; (try clear hc_f_0 hc_f_1 hc_f_2 hc_f_3 hc_f_4 hc_f_5 hc_f_6 hc_f_7 hc_f_8 hc_f_9 hf_f_0 hf_f_1 hf_f_2 hf_f_3 hf_f_4 hf_f_5 hf_f_6 hf_f_7 hf_f_8 hf_f_9); (try clear hb_); obtain ⟨hc_f_0, hc_f_1, hc_f_2, hc_f_3, hc_f_4, hc_f_5, hc_f_6, hc_f_7, hc_f_8, hc_f_9, hf_f_0, hf_f_1, hf_f_2, hf_f_3, hf_f_4, hf_f_5, hf_f_6, hf_f_7, hf_f_8, hf_f_9⟩ := xW BK_f.out))
 (try simp only [Exit.inBlock, Exit.then])
 go_ret
 exact ⟨rfl, HB.out⟩
def yD.f (a0 : Int) : Option (ByteArray) := some (strOfNums (([(a0) % 256, (a0 / 256) % 256, (a0 / 65536) % 256, (a0 / 16777216) % 256] : List Int)))
theorem yD.calls (a0 : Int) (r : ByteArray) (w : World) (h : yD.f a0 = some r) :
  Calls Tryz.prog 55 #[.int .u32 a0] w fun e w' => e = .returned (.string r) ∧ Below w.heap.size w w' := by
 have HB := za.mk (Below.refl w.heap.size w)
 have H : (some (strOfNums (([(a0) % 256, (a0 / 256) % 256, (a0 / 65536) % 256, (a0 / 16777216) % 256] : List Int)))) = some r := h
 clear h
 obtain ⟨y389, hy389⟩ : ∃ y_ : List Int, y_ = (([(a0) % 256, (a0 / 256) % 256, (a0 / 65536) % 256, (a0 / 16777216) % 256] : List Int)) := ⟨_, rfl⟩
 replace H : (some (strOfNums y389)) = some r := by first | (rw [hy389]; with_reducible exact H) | (have H2_ := (Option.bind_some _ _).symm.trans H; rw [hy389]; with_reducible exact H2_) | (have H2_ := (Option.bind_some _ _).symm.trans H; with_reducible exact H2_) | with_reducible exact H | (rw [hy389]; exact H) | exact H
 have Ny389 := za.mk hy389
 clear hy389
 obtain rfl := Option.some.inj H
 go_enter Tryz.func55, Tryz.ntmps55
 go_wp2_with (first | ((with_reducible refine zI (N := 14) rfl ?_); refine Kd.R_lit (Kd.int .u8) _ 5 ?hg (N := 14) ?hd (xs := ([(a0) % 256, (a0 / 256) % 256, (a0 / 65536) % 256, (a0 / 16777216) % 256] : List Int)) (inner := [.int .u8 ((a0) % 256), .int .u8 ((a0 / 256) % 256), .int .u8 ((a0 / 65536) % 256), .int .u8 ((a0 / 16777216) % 256)]) (ok := fun _ => True) (okp := fun _ => True) ?hr ?hp (fun _ hk => hk) trivial (Below.refl _ _) (Nat.le_refl _) (by simp) ?_; (case hd => rfl); (case hg => rfl); (case hr => first | (go_simp; done) | (go_simp; rfl)); (case hp => exact (zQ.one (show Kd.M (Kd.int .u8) _ _ _ ((a0) % 256) [.int .u8 ((a0) % 256)] from rfl) (zQ.one (show Kd.M (Kd.int .u8) _ _ _ ((a0 / 256) % 256) [.int .u8 ((a0 / 256) % 256)] from rfl) (zQ.one (show Kd.M (Kd.int .u8) _ _ _ ((a0 / 65536) % 256) [.int .u8 ((a0 / 65536) % 256)] from rfl) (zQ.one (show Kd.M (Kd.int .u8) _ _ _ ((a0 / 16777216) % 256) [.int .u8 ((a0 / 16777216) % 256)] from rfl) (zQ.none _ _)))))); intro v390 w2 ho3 hb hg_ hnew_; clear hg_ hnew_; (first | rw [← Ny389.out] at ho3 | (simp only [Int.reduceToNat] at ho3; rw [← Ny389.out] at ho3)); have n0_ := za.mk (Kd.R_lower ho3 (zF (by repeat (first | (with_reducible first | exact HB.out | apply zc | apply zb | apply zd) | exact HB.out)))); have n1_ := za.mk (zp (by repeat (first | (with_reducible first | exact HB.out | apply zc | apply zb | apply zd) | exact HB.out)) hb); clear HB; have HO391 := n0_; have HB := n1_; clear n0_ n1_; clear hb ho3; have hcv4 := Xi (P := Tryz.prog) Tryz.underlying41 Tryz.underlying5 Tryz.underlying9 (Kd.own_of_R HO391.out)))
 go_ret
 exact ⟨by first | rfl | (simp [zn, zo] <;> rfl) | (simp [*, zn, zo] <;> rfl), by repeat (first | (with_reducible first | exact HB.out | apply zc | apply zb | apply zd) | exact HB.out)⟩
def yd.l0 : Nat → Int → Int → Option (Int)
 | 0, _, _ => none
 | k + 1, x0, x10 => if x10 < 8 then (if (Go.bits .and .u32 x0 1) = 1 then (yd.l0 k (Go.bits .xor .u32 (x0 / 2) 2197175160) (wrap64 (x10 + 1))) else (yd.l0 k (x0 / 2) (wrap64 (x10 + 1)))) else (some x0)
def yd.f (k : Nat) (a0 : Int) (a1 : Int) : Option (Int) := yd.l0 k (Go.bits .xor .u32 a0 ((a1) % 4294967296)) 0
theorem yd.calls (k : Nat) (a0 : Int) (a1 : Int) (r : Int) (w : World) (h : yd.f k a0 a1 = some r) :
  Calls Tryz.prog 130 #[.int .u32 a0, .int .u8 a1] w fun e w' => e = .returned (.int .u32 r) ∧ zm w w' := by
 have H : (yd.l0 k (Go.bits .xor .u32 a0 ((a1) % 4294967296)) 0) = some r := h
 clear h
 have H' := za.mk H
 clear H
 go_enter Tryz.func130, Tryz.ntmps130
 go_wp2
 go_loopg [0, 10] k (fun kq v0 v10 w' => ∃ (x0_1 : Int) (x10_1 : Int), v0 = .int .u32 x0_1 ∧ v10 = .int .i64 x10_1 ∧ za (yd.l0 kq x0_1 x10_1 = some r) ∧ za (kq ≤ k) ∧ zm w w')
 case atStart => exact ⟨(Go.bits .xor .u32 a0 ((a1) % 4294967296)), (0), (by first | rfl | (simp; done) | (simp [*]; done)), (by first | rfl | (simp; done) | (simp [*]; done)), H', ⟨Nat.le_refl _⟩, by repeat (first | exact zm.refl _ | apply zm.step)⟩
 case round =>
  clear H'
  try clear c1
  try clear p2
  obtain ⟨x0_1, x10_1, rfl, rfl, HA, HK1, ⟨m1, rfl⟩⟩ := hrel
  cases gk with
  | zero => exact absurd HA.out (by simp [yd.l0])
  | succ k1 =>
   have H := HA.out
   clear HA
   simp only [yd.l0] at H
   by_cases c3 : x10_1 < 8
   ·rw [if_pos c3] at H
    have c3b0 : decide (x10_1 < 8) = true := decide_eq_true c3
    clear c3
    by_cases c4 : (Go.bits .and .u32 x0_1 1) = 1
    ·rw [if_pos c4] at H
     have c4b0 : ((Go.bits .and .u32 x0_1 1) == 1) = true := beq_iff_eq.mpr c4
     have c4b1 : ((Go.bits .and .u32 x0_1 1) != 1) = false := bne_eq_false_iff_eq.mpr c4
     clear c4
     have H' := za.mk H
     clear H
     go_wp2
     go_roundg k1
     case measure => have := HK1.out; omega
     case rel => exact ⟨(Go.bits .xor .u32 (x0_1 / 2) 2197175160), (wrap64 (x10_1 + 1)), (by first | rfl | (simp; done) | (simp [*]; done)), (by first | rfl | (simp; done) | (simp [*]; done)), H', ⟨by have := HK1.out; omega⟩, by repeat (first | exact zm.refl _ | apply zm.step)⟩
    ·rw [if_neg c4] at H
     have c4b0 : ((Go.bits .and .u32 x0_1 1) == 1) = false := beq_eq_false_iff_ne.mpr c4
     have c4b1 : ((Go.bits .and .u32 x0_1 1) != 1) = true := bne_iff_ne.mpr c4
     have H' := za.mk H
     clear H
     go_wp2
     go_roundg k1
     case measure => have := HK1.out; omega
     case rel => exact ⟨(x0_1 / 2), (wrap64 (x10_1 + 1)), (by first | rfl | (simp; done) | (simp [*]; done)), (by first | rfl | (simp; done) | (simp [*]; done)), H', ⟨by have := HK1.out; omega⟩, by repeat (first | exact zm.refl _ | apply zm.step)⟩
   ·rw [if_neg c3] at H
    have c3b0 : decide (x10_1 < 8) = false := decide_eq_false c3
    clear c3
    obtain rfl := Option.some.inj H
    go_wp2
    go_ret
    exact ⟨by first | rfl | (simp; done) | (simp [*]; done), by repeat (first | exact zm.refl _ | apply zm.step)⟩
def yn.l0 : Nat → ByteArray → Int → Int → Int → Option (Int)
 | 0, _, _, _, _ => none
 | k + 1, x1, x5, x10, x11 => if x11 < x10 then (if 0 ≤ x11 then (if x11 < (x1.size : Int) then ((yd.f k x5 (bt x1 x11)).bind fun t392 => (yn.l0 k x1 t392 x10 (wrap64 (x11 + 1)))) else (none)) else (none)) else (some (Go.bits .xor .u32 4294967295 x5))
def yn.f (k : Nat) (a0 : Int) (a1 : ByteArray) : Option (Int) := yn.l0 k a1 (Go.bits .xor .u32 4294967295 a0) (a1.size : Int) 0
theorem yn.calls (k : Nat) (a0 : Int) (a1 : ByteArray) (r : Int) (w : World) (h : yn.f k a0 a1 = some r) :
  Calls Tryz.prog 100 #[.int .u32 a0, .string a1] w fun e w' => e = .returned (.int .u32 r) ∧ zm w w' := by
 have H : (yn.l0 k a1 (Go.bits .xor .u32 4294967295 a0) (a1.size : Int) 0) = some r := h
 clear h
 have H' := za.mk H
 clear H
 go_enter Tryz.func100, Tryz.ntmps100
 go_wp2
 go_loopg [5, 11] k (fun kq v5 v11 w' => ∃ (x5_1 : Int) (x11_1 : Int), v5 = .int .u32 x5_1 ∧ v11 = .int .i64 x11_1 ∧ za (yn.l0 kq a1 x5_1 (a1.size : Int) x11_1 = some r) ∧ za (kq ≤ k) ∧ zm w w')
 case atStart => exact ⟨(Go.bits .xor .u32 4294967295 a0), (0), (by first | rfl | (simp; done) | (simp [*]; done)), (by first | rfl | (simp; done) | (simp [*]; done)), H', ⟨Nat.le_refl _⟩, by repeat (first | exact zm.refl _ | apply zm.step)⟩
 case round =>
  clear H'
  try clear c1
  try clear p2
  obtain ⟨x5_1, x11_1, rfl, rfl, HA, HK1, ⟨m1, rfl⟩⟩ := hrel
  cases gk with
  | zero => exact absurd HA.out (by simp [yn.l0])
  | succ k1 =>
   have H := HA.out
   clear HA
   simp only [yn.l0] at H
   by_cases c3 : x11_1 < (a1.size : Int)
   ·rw [if_pos c3] at H
    have c3b0 : decide (x11_1 < (a1.size : Int)) = true := decide_eq_true c3
    clear c3
    by_cases c4 : 0 ≤ x11_1
    ·rw [if_pos c4] at H
     have c4b0 : decide (0 ≤ x11_1) = true := decide_eq_true c4
     clear c4
     by_cases c5 : x11_1 < (a1.size : Int)
     ·rw [if_pos c5] at H
      have c5b0 : decide (x11_1 < (a1.size : Int)) = true := decide_eq_true c5
      clear c5
      replace H := zcX.mp H
      obtain ⟨t392, A70, H⟩ := H
      replace H : (yn.l0 k1 a1 t392 (a1.size : Int) (wrap64 (x11_1 + 1))) = some r := H
      have A7 := za.mk A70
      clear A70
      have H' := za.mk H
      clear H
      have p6 : 0 ≤ (x11_1 : Int) := of_decide_eq_true (by first | (with_reducible assumption) | assumption)
      have q6 : x11_1 < (a1.size : Int) := of_decide_eq_true (by first | (with_reducible assumption) | assumption)
      have hx6 := Xn a1 x11_1
      replace p6 := eq_true p6
      replace q6 := eq_true q6
      go_wp2_with (first | ((with_reducible refine zy (f := 130) rfl ?_); refine zS (some 18) rfl rfl Tryz.func130 (by kernel_rfl) rfl #[.int .u32 x5_1, .int .u8 (bt a1 x11_1)] rfl (by (try simp only [zcW, List.map_cons, List.map_nil]); first | done | rfl | (simp only [List.length_drop, List.length_take]; rfl)) ?_; (with_reducible refine (yd.calls k1 x5_1 (bt a1 x11_1) t392 _ A7.out).mono ?_); rintro e w' ⟨rfl, ⟨nd, rfl⟩⟩; refine ⟨_, rfl, ?_⟩))
      go_roundg k1
      case measure => have := HK1.out; omega
      case rel => exact ⟨(t392), (wrap64 (x11_1 + 1)), (by first | rfl | (simp; done) | (simp [*]; done)), (by first | rfl | (simp; done) | (simp [*]; done)), H', ⟨by have := HK1.out; omega⟩, by repeat (first | exact zm.refl _ | apply zm.step)⟩
     ·rw [if_neg c5] at H
      exact absurd H (by simp)
    ·rw [if_neg c4] at H
     exact absurd H (by simp)
   ·rw [if_neg c3] at H
    have c3b0 : decide (x11_1 < (a1.size : Int)) = false := decide_eq_false c3
    clear c3
    obtain rfl := Option.some.inj H
    go_wp2
    go_ret
    exact ⟨by first | rfl | (simp; done) | (simp [*]; done), by repeat (first | exact zm.refl _ | apply zm.step)⟩
def xj.f (k : Nat) (a0 : ByteArray) : Option (Int) := (yn.f k 0 a0).bind fun t393 => (some t393)
theorem xj.calls (k : Nat) (a0 : ByteArray) (r : Int) (w : World) (h : xj.f k a0 = some r) :
  Calls Tryz.prog 56 #[.string a0] w fun e w' => e = .returned (.int .u32 r) ∧ zm w w' := by
 have H : ((yn.f k 0 a0).bind fun t393 => (some t393)) = some r := h
 clear h
 replace H := zcX.mp H
 obtain ⟨t393, A20, H⟩ := H
 replace H : (some t393) = some r := H
 have A2 := za.mk A20
 clear A20
 obtain rfl := Option.some.inj H
 go_enter Tryz.func56, Tryz.ntmps56
 go_wp2_with (first | ((with_reducible refine zy (f := 100) rfl ?_); refine zS (some 4) rfl rfl Tryz.func100 (by kernel_rfl) rfl #[.int .u32 0, .string a0] rfl (by (try simp only [zcW, List.map_cons, List.map_nil]); first | done | rfl | (simp only [List.length_drop, List.length_take]; rfl)) ?_; (with_reducible refine (yn.calls k 0 a0 t393 _ A2.out).mono ?_); rintro e w' ⟨rfl, ⟨nd, rfl⟩⟩; refine ⟨_, rfl, ?_⟩))
 go_ret
 exact ⟨by first | rfl | (simp; done) | (simp [*]; done), by repeat (first | exact zm.refl _ | apply zm.step)⟩
def qG.f (k : Nat) (a0 : ByteArray) : Option (ByteArray) := (xj.f k a0).bind fun t394 => ((yD.f t394).bind fun t395 => (if a0.size + t395.size ≤ 9223372036854775807 then (some (a0 ++ t395)) else (none)))
theorem qG.calls (k : Nat) (a0 : ByteArray) (r : ByteArray) (w : World) (h : qG.f k a0 = some r) :
  Calls Tryz.prog 17 #[.string a0] w fun e w' => e = .returned (.string r) ∧ Below w.heap.size w w' := by
 have HB := za.mk (Below.refl w.heap.size w)
 have H : ((xj.f k a0).bind fun t394 => ((yD.f t394).bind fun t395 => (if a0.size + t395.size ≤ 9223372036854775807 then (some (a0 ++ t395)) else (none)))) = some r := h
 clear h
 replace H := zcX.mp H
 obtain ⟨t394, A20, H⟩ := H
 replace H : ((yD.f t394).bind fun t395 => (if a0.size + t395.size ≤ 9223372036854775807 then (some (a0 ++ t395)) else (none))) = some r := H
 have A2 := za.mk A20
 clear A20
 replace H := zcX.mp H
 obtain ⟨t395, A30, H⟩ := H
 replace H : (if a0.size + t395.size ≤ 9223372036854775807 then (some (a0 ++ t395)) else (none)) = some r := H
 have A3 := za.mk A30
 clear A30
 by_cases c4 : a0.size + t395.size ≤ 9223372036854775807
 ·rw [if_pos c4] at H
  have c4b0 := eq_true c4
  have c4b1 : decide (a0.size + t395.size ≤ 9223372036854775807) = true := decide_eq_true c4
  try have c4b2 : (9223372036854775807 < a0.size + t395.size) = False := eq_false (Nat.not_lt.2 c4)
  obtain rfl := Option.some.inj H
  go_enter Tryz.func17, Tryz.ntmps17
  go_wp2_with (first | ((with_reducible refine zy (f := 56) rfl ?_); refine zS (some 5) rfl rfl Tryz.func56 (by kernel_rfl) rfl #[.string a0] rfl (by (try simp only [zcW, List.map_cons, List.map_nil]); first | done | rfl | (simp only [List.length_drop, List.length_take]; rfl)) ?_; (with_reducible refine (xj.calls k a0 t394 _ A2.out).mono ?_); rintro e w' ⟨rfl, ⟨nd, rfl⟩⟩; refine ⟨_, rfl, ?_⟩) | ((with_reducible refine zy (f := 55) rfl ?_); refine zS (some 6) rfl rfl Tryz.func55 (by kernel_rfl) rfl #[.int .u32 t394] rfl (by (try simp only [zcW, List.map_cons, List.map_nil]); first | done | rfl | (simp only [List.length_drop, List.length_take]; rfl)) ?_; (with_reducible refine (yD.calls t394 t395 _ A3.out).mono ?_); rintro e w5 ⟨rfl, hb⟩; refine ⟨_, rfl, ?_⟩; have n0_ := za.mk (zp (by repeat (first | (with_reducible first | exact HB.out | apply zc | apply zb | apply zd) | exact HB.out)) hb); clear HB; have HB := n0_; clear n0_; (try clear hb); (try clear hb2); (try clear hk); (try clear hi)))
  go_ret
  exact ⟨by first | rfl | (simp [zn, zo] <;> rfl) | (simp [*, zn, zo] <;> rfl), by repeat (first | (with_reducible first | exact HB.out | apply zc | apply zb | apply zd) | exact HB.out)⟩
 ·rw [if_neg c4] at H
  exact absurd H (by simp)
def Zw (x : Fm) (b : ByteArray) : Prop := ∃ k, xN.f k x.f0 x.f1 x.f2 x.f3 x.f4 x.f5 x.f6 x.f7 x.f8 x.f9 = some b
theorem Zw.calls {x : Fm} {b : ByteArray} {w : World} {cs : List Value} (h : Zw x b) (hx : FmC w x cs) : Calls Tryz.prog 19 #[.agg cs.toArray] w fun e w' => e = .returned (.string b) ∧ Below w.heap.size w w' := by
 obtain ⟨k, h⟩ := h
 obtain ⟨v5, v6, v7, v8, v9, rfl, ⟨A5, c5, rfl, l5, h5⟩, ⟨A6, c6, rfl, l6, h6⟩, ⟨A7, c7, rfl, l7, h7⟩, ⟨A8, c8, rfl, l8, h8⟩, ⟨A9, c9, rfl, l9, h9⟩⟩ := hx
 exact xN.calls k x.f0 x.f1 x.f2 x.f3 x.f4 A5 c5 x.f5 A6 c6 x.f6 A7 c7 x.f7 A8 c8 x.f8 A9 c9 x.f9 b w h5 l5 h6 l6 h7 l7 h8 l8 h9 l9 h
def vL (x : Fm) (s : ByteArray) (e : Int) : Prop := (jZ x false ∧ s = ⟨#[]⟩ ∧ e = 2) ∨ (jZ x true ∧ ∃ n b, (∃ k, zx.f k [x.f0, x.f1, x.f2] = some n) ∧ Zw x b ∧ n.size + b.size ≤ 9223372036854775807 ∧ (∃ k, qG.f k (n ++ b) = some s) ∧ e = 0)
theorem vL.calls {x : Fm} {s : ByteArray} {er : Int} {w : World} {cs : List Value} (h : vL x s er) (hx : FmC w x cs) : Calls Tryz.prog 7 #[.agg cs.toArray] w fun e w' => e = .returned (.tuple #[.string s, .int .i64 er]) ∧ Below w.heap.size w w' := by
 have HX := hx
 obtain ⟨v5, v6, v7, v8, v9, rfl, h5, h6, h7, h8, h9⟩ := hx
 obtain ⟨A5, c5, rfl, _⟩ := h5.id
 obtain ⟨A6, c6, rfl, _⟩ := h6.id
 obtain ⟨A7, c7, rfl, _⟩ := h7.id
 obtain ⟨A8, c8, rfl, _⟩ := h8.id
 obtain ⟨A9, c9, rfl, _⟩ := h9.id
 clear h5 h6 h7 h8 h9
 have HS := (Sat.nil w).row (Ty.R (Kd.int .u8) 5 w.heap.size (.slice none 0 0) []) (Kd.R_nil _ _ _ _ _)
 replace HX := za.mk HX
 rcases h with ⟨hr, rfl, rfl⟩ | ⟨hr, n, b, ⟨_, hn⟩, hf, hz, ⟨_, hs⟩, rfl⟩
 ·replace hr := za.mk hr
  go_enter Tryz.func7, Tryz.ntmps7
  go_wp2_with ((first | ((with_reducible refine gB rfl ?_); refine zC HS ?_) | ((with_reducible refine gA rfl ?_); refine zr HS ?_) | ((with_reducible refine gS rfl ?_); refine zt HS ?_) | (go_at_call 16; refine HS.go (hr.out.calls (HX.out.below HS.below)) ?_)); clear HS; (try clear hc); intros; rename_i HS; have hc := HS.lk; simp only [Lk, LkC, Value.cells, List.toList_toArray, Nat.reduceAdd, Nat.zero_add, and_true, zf, zg, ze, zh] at HS hc)
  go_ret2
  exact ⟨rfl, HS.below⟩
 ·replace hr := za.mk hr
  replace hn := za.mk hn
  replace hf := za.mk hf
  replace hs := za.mk hs
  have hz2 : ¬ n.size + b.size > 9223372036854775807 := Nat.not_lt.2 hz
  have hz3 : ¬ 9223372036854775807 < n.size + b.size := Nat.not_lt.2 hz
  clear hz
  go_enter Tryz.func7, Tryz.ntmps7
  go_wp2_with (first | ((first | ((with_reducible refine gB rfl ?_); refine zC HS ?_) | ((with_reducible refine gA rfl ?_); refine zr HS ?_) | ((with_reducible refine gS rfl ?_); refine zt HS ?_) | (go_at_call 16; refine HS.go (hr.out.calls (HX.out.below HS.below)) ?_)); clear HS; (try clear hc); intros; rename_i HS; have hc := HS.lk; simp only [Lk, LkC, Value.cells, List.toList_toArray, Nat.reduceAdd, Nat.zero_add, and_true, zf, zg, ze, zh] at HS hc) | (refine yh (.op 0 0 7 (.op 1 0 8 (.op 2 0 9 (.op 3 0 10 (.op 4 0 11 (.op 5 0 12 (.op 8 0 15 (.op 6 2 13 (.op 7 2 14 (.op 9 2 16 (.op 10 1 17 (.op 11 2 18 (.op 12 1 2 (.op 13 1 3 .nil)))))))))))))) [] HS (List.Sublist.refl _) ?_; clear HS hc; intro HS hS; (repeat' (first | refine RT.tk ?_ | refine RT.pu ?_ | refine RT.f2 ?_ ?_ | refine RT.o1 ?_ | (refine XH (l := [x.f0, x.f1, x.f2]) HS (List.Sublist.refl _) ?_ (by simp); clear HS; intro g_ w_ HS; refine RT.nm ?_) | (refine vr HS (List.Sublist.refl _) (zx.calls _ _ _ _ _ _ (Kd.R_reads' (HS.rows _ (.tail _ (.head _))).2).2.2 (Nat.le_refl _) hn.out) ?_; clear HS; intro w_ HS; refine RT.nm ?_) | (refine vr HS (List.Sublist.refl _) (Zw.calls hf.out (HX.out.below HS.below)) ?_; clear HS; intro w_ HS; refine RT.nm ?_) | (refine vr HS (List.Sublist.refl _) (qG.calls _ _ _ _ hs.out) ?_; clear HS; intro w_ HS; refine RT.nm ?_))); have hc := HS.lk; simp only [Lk, LkC, Value.cells, List.toList_toArray, Nat.reduceAdd, Nat.zero_add, and_true, zf, zg, ze, zh] at HS hc; refine RT.nil ?_))
  go_ret2
  exact ⟨rfl, HS.below⟩
mutual
def zl.j0 : Nat → ByteArray → Int → Bool → Option (Int × Int × Int)
 | 0, _, _, _ => none
 | k + 1, x0, x1, x18 => if x18 = true then (some (0, 0, 3)) else (zl.l0 k x0 x1 0 0)
def zl.l0 : Nat → ByteArray → Int → Int → Int → Option (Int × Int × Int)
 | 0, _, _, _, _ => none
 | k + 1, x0, x1, x7, x8 => if (wrap64 (x1 + x8)) < (x0.size : Int) then (if 0 ≤ (wrap64 (x1 + x8)) then (if x8 = 9 then (zl.j2 k x0 x1 x7 x8 (bt x0 (wrap64 (x1 + x8))) (decide ((bt x0 (wrap64 (x1 + x8))) > 1))) else (zl.j2 k x0 x1 x7 x8 (bt x0 (wrap64 (x1 + x8))) false)) else (none)) else (some (0, 0, 5))
def zl.j2 : Nat → ByteArray → Int → Int → Int → Int → Bool → Option (Int × Int × Int)
 | 0, _, _, _, _, _, _ => none
 | k + 1, x0, x1, x7, x8, x9, x37 => if x37 = true then (some (0, 0, 6)) else (if 0 ≤ (wrap64 (7 * x8)) then (if x9 ≥ 128 then (zl.l0 k x0 x1 (Go.bits .or .u64 x7 (shl .u64 (IntKind.u64.wrap (Go.bits .and .u8 x9 127)) (wrap64 (7 * x8)))) (wrap64 (x8 + 1))) else (if x9 = 0 then (zl.j3 k x1 (Go.bits .or .u64 x7 (shl .u64 (IntKind.u64.wrap (Go.bits .and .u8 x9 127)) (wrap64 (7 * x8)))) x8 (decide (x8 > 0))) else (zl.j3 k x1 (Go.bits .or .u64 x7 (shl .u64 (IntKind.u64.wrap (Go.bits .and .u8 x9 127)) (wrap64 (7 * x8)))) x8 false))) else (none))
def zl.j3 : Nat → Int → Int → Int → Bool → Option (Int × Int × Int)
 | 0, _, _, _, _ => none
 | k + 1, x1, x7, x8, x53 => if x53 = true then (some (0, 0, 6)) else (if (Go.bits .and .u64 x7 1) = 1 then (some (Go.bits .xor .i64 (-1) (wrap64 (x7 / 2)), wrap64 ((wrap64 (x1 + x8)) + 1), 0)) else (some (wrap64 (x7 / 2), wrap64 ((wrap64 (x1 + x8)) + 1), 0)))
end
def zl.f (k : Nat) (a0 : ByteArray) (a1 : Int) : Option (Int × Int × Int) := if a1 < 0 then (zl.j0 k a0 a1 true) else (zl.j0 k a0 a1 (decide (a1 > (a0.size : Int))))
theorem zl.calls (k : Nat) (a0 : ByteArray) (a1 : Int) (r1 : Int) (r2 : Int) (r3 : Int) (w : World) (h : zl.f k a0 a1 = some (r1, r2, r3)) :
  Calls Tryz.prog 75 #[.string a0, .int .i64 a1] w fun e w' => e = .returned (.tuple #[.int .i64 r1, .int .i64 r2, .int .i64 r3]) ∧ zm w w' := by
 have H : (if a1 < 0 then (zl.j0 k a0 a1 true) else (zl.j0 k a0 a1 (decide (a1 > (a0.size : Int))))) = some (r1, r2, r3) := h
 clear h
 have HC3 := za.mk H
 clear H
 go_enter Tryz.func75, Tryz.ntmps75
 go_upto_region 1 with (fail)
 go_cut [18] (fun v18 wc => ∃ (kq : Nat) (x18_2 : Bool), v18 = .bool x18_2 ∧ za (zl.j0 kq a0 a1 x18_2 = some (r1, r2, r3)) ∧ za (kq ≤ k) ∧ zm w wc)
 case first =>
  have H := HC3.out
  clear HC3
  by_cases c4 : a1 < 0
  ·rw [if_pos c4] at H
   have c4b0 : decide (a1 < 0) = true := decide_eq_true c4
   clear c4
   (first | rw [c4b0] | (simp only [zY, z0]; rw [c4b0]) | skip)
   have H' := za.mk H
   clear H
   go_wp2
   go_meet
   case rel => exact ⟨_, (true), (by first | rfl | (simp; done) | (simp [*]; done)), H', ⟨by first | omega | exact Nat.le_refl _⟩, by repeat (first | exact zm.refl _ | apply zm.step)⟩
  ·rw [if_neg c4] at H
   have c4b0 : decide (a1 < 0) = false := decide_eq_false c4
   clear c4
   (first | rw [c4b0] | (simp only [zY, z0]; rw [c4b0]) | skip)
   have H' := za.mk H
   clear H
   go_wp2
   go_meet
   case rel => exact ⟨_, (decide (a1 > (a0.size : Int))), (by first | rfl | (simp; done) | (simp [*]; done)), H', ⟨by first | omega | exact Nat.le_refl _⟩, by repeat (first | exact zm.refl _ | apply zm.step)⟩
 case rest =>
  clear HC3
  try clear p2
  try clear c4
  try clear c4b0
  obtain ⟨kq, x18_2, rfl, HA, HJ2, ⟨mc2, rfl⟩⟩ := hcut
  cases kq with
  | zero => exact absurd HA.out (by simp [zl.j0])
  | succ kj2 =>
   have H := HA.out
   clear HA
   simp only [zl.j0] at H
   by_cases c5 : x18_2 = true
   ·subst c5
    have H1 : (some (0, 0, 3)) = some (r1, r2, r3) := by rw [if_pos rfl] at H; exact H
    clear H
    have H := H1
    clear H1
    simp only [Option.some.injEq, Prod.mk.injEq] at H
    obtain ⟨rfl, rfl, rfl⟩ := H
    go_wp2
    go_ret3
    exact ⟨by first | rfl | (simp; done) | (simp [*]; done), by repeat (first | exact zm.refl _ | apply zm.step)⟩
   ·replace c5 := zcZ.mpr c5
    subst c5
    have H1 : (zl.l0 kj2 a0 a1 0 0) = some (r1, r2, r3) := by rw [if_neg (show ¬ (false = true) by decide)] at H; exact H
    clear H
    have H := H1
    clear H1
    have H' := za.mk H
    clear H
    go_wp2
    go_loopg [7, 8] kj2 (fun kq v7 v8 w' => ∃ (x7_2 : Int) (x8_2 : Int), v7 = .int .u64 x7_2 ∧ v8 = .int .i64 x8_2 ∧ za (zl.l0 kq a0 a1 x7_2 x8_2 = some (r1, r2, r3)) ∧ za (kq ≤ kj2) ∧ zm w w')
    case atStart => exact ⟨(0), (0), (by first | rfl | (simp; done) | (simp [*]; done)), (by first | rfl | (simp; done) | (simp [*]; done)), H', ⟨Nat.le_refl _⟩, by repeat (first | exact zm.refl _ | apply zm.step)⟩
    case round =>
     clear H'
     try clear c2
     try clear p2
     try clear c4
     try clear c4b0
     try clear c5
     try clear p2
     obtain ⟨x7_2, x8_2, rfl, rfl, HA, HK2, ⟨m2, rfl⟩⟩ := hrel
     cases gk with
     | zero => exact absurd HA.out (by simp [zl.l0])
     | succ k2 =>
      have H := HA.out
      clear HA
      simp only [zl.l0] at H
      by_cases c6 : (wrap64 (a1 + x8_2)) < (a0.size : Int)
      ·rw [if_pos c6] at H
       have c6b0 : decide ((wrap64 (a1 + x8_2)) < (a0.size : Int)) = true := decide_eq_true c6
       clear c6
       obtain ⟨ji7, hji7⟩ : ∃ j_ : Int, (wrap64 (a1 + x8_2)) = j_ := ⟨_, rfl⟩
       replace H : (if 0 ≤ (ji7) then (if x8_2 = 9 then (zl.j2 k2 a0 a1 x7_2 x8_2 (bt a0 (ji7)) (decide ((bt a0 (ji7)) > 1))) else (zl.j2 k2 a0 a1 x7_2 x8_2 (bt a0 (ji7)) false)) else (none)) = some (r1, r2, r3) := by first | (rw [hji7] at H; exact H) | (simp only [hji7] at H ⊢; exact H)
       (try rw [hji7] at c6b0)
       have hji7w : (IntKind.i64.wrap (a1 + x8_2)) = ji7 := (zY _).trans hji7
       by_cases c8 : 0 ≤ (ji7)
       ·rw [if_pos c8] at H
        have c8b0 : decide (0 ≤ (ji7)) = true := decide_eq_true c8
        clear c8
        have HC10 := za.mk H
        clear H
        have p9 : 0 ≤ ((ji7) : Int) := of_decide_eq_true (by first | (with_reducible assumption) | assumption)
        have q9 : (ji7) < (a0.size : Int) := of_decide_eq_true (by first | (with_reducible assumption) | assumption)
        have hx9 := Xn a0 (ji7)
        replace p9 := eq_true p9
        replace q9 := eq_true q9
        go_upto_region 8 with (fail)
        go_cut [37] (fun v37 wc => ∃ (kq : Nat) (x37_9 : Bool), v37 = .bool x37_9 ∧ za (zl.j2 kq a0 a1 x7_2 x8_2 (bt a0 (ji7)) x37_9 = some (r1, r2, r3)) ∧ za (kq ≤ k2) ∧ zm w wc)
        case first =>
         have H := HC10.out
         clear HC10
         by_cases c11 : x8_2 = 9
         ·rw [if_pos c11] at H
          have c11b0 : (x8_2 == 9) = true := beq_iff_eq.mpr c11
          have c11b1 : (x8_2 != 9) = false := bne_eq_false_iff_eq.mpr c11
          clear c11
          (first | rw [c11b0] | (simp only [zY, z0]; rw [c11b0]) | skip)
          have H' := za.mk H
          clear H
          go_wp2
          go_meet
          case rel => exact ⟨_, (decide ((bt a0 (ji7)) > 1)), (by first | rfl | (simp; done) | (simp only [← hji7] <;> (first | rfl | simp)) | (simp [*]; done)), H', ⟨by have := HJ2.out; have := HK2.out; first | omega | exact Nat.le_refl _⟩, by repeat (first | exact zm.refl _ | apply zm.step)⟩
         ·rw [if_neg c11] at H
          have c11b0 : (x8_2 == 9) = false := beq_eq_false_iff_ne.mpr c11
          have c11b1 : (x8_2 != 9) = true := bne_iff_ne.mpr c11
          (first | rw [c11b0] | (simp only [zY, z0]; rw [c11b0]) | skip)
          have H' := za.mk H
          clear H
          go_wp2
          go_meet
          case rel => exact ⟨_, (false), (by first | rfl | (simp; done) | (simp [*]; done)), H', ⟨by have := HJ2.out; have := HK2.out; first | omega | exact Nat.le_refl _⟩, by repeat (first | exact zm.refl _ | apply zm.step)⟩
        case rest =>
         clear HC10
         try clear c1
         try clear c2
         try clear p2
         try clear c4
         try clear c4b0
         try clear c5
         try clear c6
         try clear c6b0
         try clear p6
         try clear c7
         try clear c8
         try clear c8b0
         try clear p9
         try clear q9
         try clear hx9
         try clear c11
         try clear c11b0
         try clear c11b1
         try clear p2
         try clear p9
         try clear q9
         obtain ⟨kq, x37_9, rfl, HA, HJ9, ⟨mc9, rfl⟩⟩ := hcut
         cases kq with
         | zero => exact absurd HA.out (by simp [zl.j2])
         | succ kj9 =>
          have H := HA.out
          clear HA
          simp only [zl.j2] at H
          by_cases c12 : x37_9 = true
          ·subst c12
           have H1 : (some (0, 0, 6)) = some (r1, r2, r3) := by rw [if_pos rfl] at H; exact H
           clear H
           have H := H1
           clear H1
           simp only [Option.some.injEq, Prod.mk.injEq] at H
           obtain ⟨rfl, rfl, rfl⟩ := H
           go_wp2
           go_ret3
           exact ⟨by first | rfl | (simp; done) | (simp only [← hji7] <;> (first | rfl | simp)) | (simp [*]; done), by repeat (first | exact zm.refl _ | apply zm.step)⟩
          ·replace c12 := zcZ.mpr c12
           subst c12
           have H1 : (if 0 ≤ (wrap64 (7 * x8_2)) then (if (bt a0 (ji7)) ≥ 128 then (zl.l0 kj9 a0 a1 (Go.bits .or .u64 x7_2 (shl .u64 (IntKind.u64.wrap (Go.bits .and .u8 (bt a0 (ji7)) 127)) (wrap64 (7 * x8_2)))) (wrap64 (x8_2 + 1))) else (if (bt a0 (ji7)) = 0 then (zl.j3 kj9 a1 (Go.bits .or .u64 x7_2 (shl .u64 (IntKind.u64.wrap (Go.bits .and .u8 (bt a0 (ji7)) 127)) (wrap64 (7 * x8_2)))) x8_2 (decide (x8_2 > 0))) else (zl.j3 kj9 a1 (Go.bits .or .u64 x7_2 (shl .u64 (IntKind.u64.wrap (Go.bits .and .u8 (bt a0 (ji7)) 127)) (wrap64 (7 * x8_2)))) x8_2 false))) else (none)) = some (r1, r2, r3) := by rw [if_neg (show ¬ (false = true) by decide)] at H; exact H
           clear H
           have H := H1
           clear H1
           obtain ⟨ji13, hji13⟩ : ∃ j_ : Int, (wrap64 (7 * x8_2)) = j_ := ⟨_, rfl⟩
           replace H : (if 0 ≤ (ji13) then (if (bt a0 (ji7)) ≥ 128 then (zl.l0 kj9 a0 a1 (Go.bits .or .u64 x7_2 (shl .u64 (IntKind.u64.wrap (Go.bits .and .u8 (bt a0 (ji7)) 127)) (ji13))) (wrap64 (x8_2 + 1))) else (if (bt a0 (ji7)) = 0 then (zl.j3 kj9 a1 (Go.bits .or .u64 x7_2 (shl .u64 (IntKind.u64.wrap (Go.bits .and .u8 (bt a0 (ji7)) 127)) (ji13))) x8_2 (decide (x8_2 > 0))) else (zl.j3 kj9 a1 (Go.bits .or .u64 x7_2 (shl .u64 (IntKind.u64.wrap (Go.bits .and .u8 (bt a0 (ji7)) 127)) (ji13))) x8_2 false))) else (none)) = some (r1, r2, r3) := by first | (rw [hji13] at H; exact H) | (simp only [hji13] at H ⊢; exact H)
           have hji13w : (IntKind.i64.wrap (7 * x8_2)) = ji13 := (zY _).trans hji13
           by_cases c14 : 0 ≤ (ji13)
           ·rw [if_pos c14] at H
            have c14b0 := eq_true c14
            have c14b1 : decide (0 ≤ (ji13)) = true := decide_eq_true c14
            clear c14
            obtain ⟨ji15, hji15⟩ : ∃ j_ : Int, (shl .u64 (IntKind.u64.wrap (Go.bits .and .u8 (bt a0 (ji7)) 127)) (ji13)) = j_ := ⟨_, rfl⟩
            replace H : (if (bt a0 (ji7)) ≥ 128 then (zl.l0 kj9 a0 a1 (Go.bits .or .u64 x7_2 (ji15)) (wrap64 (x8_2 + 1))) else (if (bt a0 (ji7)) = 0 then (zl.j3 kj9 a1 (Go.bits .or .u64 x7_2 (ji15)) x8_2 (decide (x8_2 > 0))) else (zl.j3 kj9 a1 (Go.bits .or .u64 x7_2 (ji15)) x8_2 false))) = some (r1, r2, r3) := by first | (rw [hji15] at H; exact H) | (simp only [hji15] at H ⊢; exact H)
            have hji15_ : (IntKind.u64.wrap ((IntKind.u64.wrap (Go.bits .and .u8 (bt a0 (ji7)) 127)) * 2 ^ min (ji13).toNat 64)) = ji15 := hji15
            have hji15z : (ji13) ≤ 64 → (IntKind.u64.wrap ((IntKind.u64.wrap (Go.bits .and .u8 (bt a0 (ji7)) 127)) * 2 ^ (ji13).toNat)) = ji15 := zaa hji15
            by_cases c16 : (bt a0 (ji7)) ≥ 128
            ·rw [if_pos c16] at H
             have c16b0 : decide (128 ≤ (bt a0 (ji7))) = true := decide_eq_true c16
             clear c16
             have H' := za.mk H
             clear H
             go_wp2
             go_roundg kj9
             case measure => have := HJ2.out; have := HK2.out; have := HJ9.out; omega
             case rel => exact ⟨(Go.bits .or .u64 x7_2 (ji15)), (wrap64 (x8_2 + 1)), (by first | rfl | (simp; done) | (simp only [← hji15] <;> (first | rfl | simp)) | (simp [*]; done)), (by first | rfl | (simp; done) | (simp [*]; done)), H', ⟨by have := HJ2.out; have := HK2.out; have := HJ9.out; omega⟩, by repeat (first | exact zm.refl _ | apply zm.step)⟩
            ·rw [if_neg c16] at H
             have c16b0 : decide (128 ≤ (bt a0 (ji7))) = false := decide_eq_false c16
             clear c16
             have HC17 := za.mk H
             clear H
             go_upto_region 12 with (fail)
             go_cut [53] (fun v53 wc => ∃ (kq : Nat) (x53_16 : Bool), v53 = .bool x53_16 ∧ za (zl.j3 kq a1 (Go.bits .or .u64 x7_2 (ji15)) x8_2 x53_16 = some (r1, r2, r3)) ∧ za (kq ≤ kj9) ∧ zm w wc)
             case first =>
              have H := HC17.out
              clear HC17
              by_cases c18 : (bt a0 (ji7)) = 0
              ·rw [if_pos c18] at H
               have c18b0 : ((bt a0 (ji7)) == 0) = true := beq_iff_eq.mpr c18
               have c18b1 : ((bt a0 (ji7)) != 0) = false := bne_eq_false_iff_eq.mpr c18
               clear c18
               (first | rw [c18b0] | (simp only [zY, z0]; rw [c18b0]) | skip)
               have H' := za.mk H
               clear H
               go_wp2
               go_meet
               case rel => exact ⟨_, (decide (x8_2 > 0)), (by first | rfl | (simp; done) | (simp [*]; done)), H', ⟨by have := HJ2.out; have := HK2.out; have := HJ9.out; first | omega | exact Nat.le_refl _⟩, by repeat (first | exact zm.refl _ | apply zm.step)⟩
              ·rw [if_neg c18] at H
               have c18b0 : ((bt a0 (ji7)) == 0) = false := beq_eq_false_iff_ne.mpr c18
               have c18b1 : ((bt a0 (ji7)) != 0) = true := bne_iff_ne.mpr c18
               (first | rw [c18b0] | (simp only [zY, z0]; rw [c18b0]) | skip)
               have H' := za.mk H
               clear H
               go_wp2
               go_meet
               case rel => exact ⟨_, (false), (by first | rfl | (simp; done) | (simp [*]; done)), H', ⟨by have := HJ2.out; have := HK2.out; have := HJ9.out; first | omega | exact Nat.le_refl _⟩, by repeat (first | exact zm.refl _ | apply zm.step)⟩
             case rest =>
              clear HC17
              try clear c1
              try clear c2
              try clear p2
              try clear c4
              try clear c4b0
              try clear c5
              try clear c6
              try clear c6b0
              try clear p6
              try clear c7
              try clear c8
              try clear c8b0
              try clear c9
              try clear p9
              try clear q9
              try clear hx9
              try clear c11
              try clear c11b0
              try clear c11b1
              try clear c12
              try clear c14
              try clear c14b0
              try clear c14b1
              try clear c16
              try clear c16b0
              try clear c18
              try clear c18b0
              try clear c18b1
              try clear p2
              try clear p6
              try clear p9
              try clear q9
              obtain ⟨kq, x53_16, rfl, HA, HJ16, ⟨mc16, rfl⟩⟩ := hcut
              cases kq with
              | zero => exact absurd HA.out (by simp [zl.j3])
              | succ kj16 =>
               have H := HA.out
               clear HA
               simp only [zl.j3] at H
               by_cases c19 : x53_16 = true
               ·subst c19
                have H1 : (some (0, 0, 6)) = some (r1, r2, r3) := by rw [if_pos rfl] at H; exact H
                clear H
                have H := H1
                clear H1
                simp only [Option.some.injEq, Prod.mk.injEq] at H
                obtain ⟨rfl, rfl, rfl⟩ := H
                go_wp2
                go_ret3
                exact ⟨by first | rfl | (simp; done) | (simp only [← hji7, ← hji13, ← hji15] <;> (first | rfl | simp)) | (simp [*]; done), by repeat (first | exact zm.refl _ | apply zm.step)⟩
               ·replace c19 := zcZ.mpr c19
                subst c19
                have H1 : (if (Go.bits .and .u64 (Go.bits .or .u64 x7_2 (ji15)) 1) = 1 then (some (Go.bits .xor .i64 (-1) (wrap64 ((Go.bits .or .u64 x7_2 (ji15)) / 2)), wrap64 ((wrap64 (a1 + x8_2)) + 1), 0)) else (some (wrap64 ((Go.bits .or .u64 x7_2 (ji15)) / 2), wrap64 ((wrap64 (a1 + x8_2)) + 1), 0))) = some (r1, r2, r3) := by rw [if_neg (show ¬ (false = true) by decide)] at H; exact H
                clear H
                have H := H1
                clear H1
                by_cases c20 : (Go.bits .and .u64 (Go.bits .or .u64 x7_2 (ji15)) 1) = 1
                ·rw [if_pos c20] at H
                 have c20b0 : ((Go.bits .and .u64 (Go.bits .or .u64 x7_2 (ji15)) 1) == 1) = true := beq_iff_eq.mpr c20
                 have c20b1 : ((Go.bits .and .u64 (Go.bits .or .u64 x7_2 (ji15)) 1) != 1) = false := bne_eq_false_iff_eq.mpr c20
                 clear c20
                 simp only [Option.some.injEq, Prod.mk.injEq] at H
                 obtain ⟨rfl, rfl, rfl⟩ := H
                 go_wp2
                 go_ret3
                 exact ⟨by first | rfl | (simp; done) | (simp only [← hji7, ← hji13, ← hji15] <;> (first | rfl | simp)) | (simp [*]; done), by repeat (first | exact zm.refl _ | apply zm.step)⟩
                ·rw [if_neg c20] at H
                 have c20b0 : ((Go.bits .and .u64 (Go.bits .or .u64 x7_2 (ji15)) 1) == 1) = false := beq_eq_false_iff_ne.mpr c20
                 have c20b1 : ((Go.bits .and .u64 (Go.bits .or .u64 x7_2 (ji15)) 1) != 1) = true := bne_iff_ne.mpr c20
                 simp only [Option.some.injEq, Prod.mk.injEq] at H
                 obtain ⟨rfl, rfl, rfl⟩ := H
                 go_wp2
                 go_ret3
                 exact ⟨by first | rfl | (simp; done) | (simp only [← hji7, ← hji13, ← hji15] <;> (first | rfl | simp)) | (simp [*]; done), by repeat (first | exact zm.refl _ | apply zm.step)⟩
           ·rw [if_neg c14] at H
            exact absurd H (by simp)
       ·rw [if_neg c8] at H
        exact absurd H (by simp)
      ·rw [if_neg c6] at H
       have c6b0 : decide ((wrap64 (a1 + x8_2)) < (a0.size : Int)) = false := decide_eq_false c6
       clear c6
       simp only [Option.some.injEq, Prod.mk.injEq] at H
       obtain ⟨rfl, rfl, rfl⟩ := H
       go_wp2
       go_ret3
       exact ⟨by first | rfl | (simp; done) | (simp [*]; done), by repeat (first | exact zm.refl _ | apply zm.step)⟩
def yO : List Nat → Nat → Nat × Nat × Int
 | [], _ => (0, 0, 5)
 | c :: l, k => if k = 9 ∧ 1 < c then (0, 0, 6) else if 128 ≤ c then (if (yO l (k + 1)).2.2 = 0 then (c - 128 + 128 * (yO l (k + 1)).1, (yO l (k + 1)).2.1 + 1, 0) else (0, 0, (yO l (k + 1)).2.2)) else if c = 0 ∧ 0 < k then (0, 0, 6) else (c, 1, 0)
def unz (u : Nat) : Int := if u % 2 = 1 then -((u / 2 : Nat) : Int) - 1 else ((u / 2 : Nat) : Int)
def jI (a : Int) (lo k : Nat) (r : Nat × Nat × Int) : Int × Int × Int := if r.2.2 = 0 then (unz (lo + 128 ^ k * r.1), a + (k : Int) + (r.2.1 : Int), 0) else (0, 0, r.2.2)
def yH (s : ByteArray) (a : Int) : Int × Int × Int := if a < 0 ∨ (s.size : Int) < a then (0, 0, 3) else jI a 0 0 (yO ((bl s).drop a.toNat) 0)
theorem VN (a : Int) (lo k c : Nat) (l : List Nat) (hk : k ≠ 9) (hc : 128 ≤ c) : jI a lo k (yO (c :: l) k) = jI a (lo + (c - 128) * 128 ^ k) (k + 1) (yO l (k + 1)) := by
 rw [yO, if_neg (by omega), if_pos hc]
 generalize yO l (k + 1) = r
 unfold jI
 by_cases h : r.2.2 = 0
 ·rw [if_pos h, if_pos h, if_pos rfl]
  have e1 : lo + 128 ^ k * (c - 128 + 128 * r.1) = lo + (c - 128) * 128 ^ k + 128 ^ (k + 1) * r.1 := by
   rw [Nat.mul_add, Nat.pow_succ, Nat.mul_comm (128 ^ k) (c - 128), ← Nat.mul_assoc, Nat.add_assoc]
  have e2 : a + (k : Int) + ((r.2.1 + 1 : Nat) : Int) = a + ((k + 1 : Nat) : Int) + (r.2.1 : Int) := by omega
  show (unz (lo + 128 ^ k * (c - 128 + 128 * r.1)), a + (k : Int) + ((r.2.1 + 1 : Nat) : Int), (0 : Int)) = _
  rw [e1, e2]
 ·rw [if_neg h, if_neg h, if_neg h]
theorem QX (k : Nat) : 128 ^ k = 2 ^ (7 * k) := by rw [Nat.pow_mul]
theorem Ql (n : Int) (h0 : 0 ≤ n) (h1 : n < 2 ^ 64) : IntKind.u64.wrap n = n := by rw [qX]; omega
theorem zcA (a b : Nat) (ha : a < 18446744073709551616) (hb : b < 18446744073709551616) : Go.bits .or .u64 (a : Int) (b : Int) = ((a ||| b : Nat) : Int) :=
 (bits_nat .u64 64 (by decide) Ql a b ha hb).2
theorem zcH (c : Nat) (hc : c < 256) : Go.bits .and .u8 (c : Int) 127 = ((c % 128 : Nat) : Int) := by
 have h := bits_mask .u8 8 (by decide) wraps_u8 7 (by decide) (c : Int) (by omega) (by omega)
 have e : ((2 : Int) ^ 7 - 1) = 127 := by decide
 have e2 : ((2 : Int) ^ 7) = 128 := by decide
 rw [e, e2] at h
 rw [h]
 omega
theorem VI (lo c k : Nat) (hlo : lo < 128 ^ k) (hc : c < 256) (hk : k ≤ 9) (h9 : k = 9 → c % 128 ≤ 1) :
  Go.bits .or .u64 (lo : Int) (shl .u64 (IntKind.u64.wrap (Go.bits .and .u8 (c : Int) 127)) (wrap64 (7 * (k : Int)))) = ((lo + (c % 128) * 128 ^ k : Nat) : Int) := by
 have hx : c % 128 < 128 := Nat.mod_lt _ (by decide)
 have hp : 128 ^ k ≤ 128 ^ 9 := Nat.pow_le_pow_right (by decide) hk
 have e9 : (128 : Nat) ^ 9 = 9223372036854775808 := by decide
 have hb : (c % 128) * 128 ^ k < 18446744073709551616 := by
  by_cases h : k = 9
  ·subst h
   have := h9 rfl
   rw [e9]
   omega
  ·have h8 : 128 ^ k ≤ 128 ^ 8 := Nat.pow_le_pow_right (by decide) (by omega)
   have e8 : (128 : Nat) ^ 8 = 72057594037927936 := by decide
   have : (c % 128) * 128 ^ k ≤ 127 * 128 ^ 8 := Nat.mul_le_mul (by omega) h8
   rw [e8] at this
   omega
 have hl : lo < 18446744073709551616 := by omega
 have e1 : wrap64 (7 * (k : Int)) = ((7 * k : Nat) : Int) := by rw [xp (by omega) (by omega)]; omega
 have e2 : shl .u64 (IntKind.u64.wrap ((c % 128 : Nat) : Int)) ((7 * k : Nat) : Int) = ((c % 128 * 128 ^ k : Nat) : Int) := by
  have w1 : IntKind.u64.wrap ((c % 128 : Nat) : Int) = ((c % 128 : Nat) : Int) := by rw [qX]; omega
  have hb64 : IntKind.u64.bits = 64 := rfl
  have m1 : min ((7 * k : Nat) : Int).toNat IntKind.u64.bits = 7 * k := by rw [hb64, Int.toNat_natCast]; omega
  have c1 : ((c % 128 : Nat) : Int) * 2 ^ (7 * k) = ((c % 128 * 128 ^ k : Nat) : Int) := by
   rw [QX]
   simp
  rw [shl, w1, m1, c1, qX]
  omega
 rw [zcH c hc, e1, e2, zcA lo _ hl hb]
 have h3 : lo ||| c % 128 * 128 ^ k = lo + c % 128 * 128 ^ k := by
  have := Nat.two_pow_add_eq_or_of_lt (i := 7 * k) (b := lo) (by rw [← QX]; exact hlo) (c % 128)
  rw [← QX, Nat.mul_comm] at this
  rw [Nat.or_comm, ← this, Nat.add_comm]
 rw [h3]
theorem zco (u : Nat) (h : u < 9223372036854775808) : Go.bits .xor .i64 (-1) (u : Int) = -(u : Int) - 1 := by
 have e : BitVec.ofInt 64 (-1) = BitVec.allOnes 64 := by decide
 have e2 : (BitVec.ofInt 64 (-1) ^^^ BitVec.ofInt 64 (u : Int)).toNat = 18446744073709551615 - u := by
  rw [e, BitVec.allOnes_xor, BitVec.toNat_not, BitVec.ofInt_natCast, BitVec.toNat_ofNat]
  omega
 show IntKind.i64.wrap ((BitVec.ofInt 64 (-1) ^^^ BitVec.ofInt 64 (u : Int)).toNat : Int) = _
 rw [e2, IntKind.wrap_i64]
 omega
theorem zaZ (u : Nat) (hu : u < 18446744073709551616) : Go.bits .and .u64 (u : Int) 1 = ((u % 2 : Nat) : Int) := by
 have h := bits_mask .u64 64 (by decide) Ql 1 (by decide) (u : Int) (by omega) (by omega)
 simpa using h
theorem zct (v : Nat) (h : v % 2 = 1) : unz v = -((v / 2 : Nat) : Int) - 1 := by rw [unz, if_pos h]
theorem zbB (v : Nat) (h : ¬ v % 2 = 1) : unz v = ((v / 2 : Nat) : Int) := by rw [unz, if_neg h]
theorem zaG (v : Nat) (h : v < 18446744073709551616) : wrap64 ((v : Int) / 2) = ((v / 2 : Nat) : Int) := by
 rw [xp (by omega) (by omega)]
 omega
theorem vj3 (a : Int) (h0 : 0 ≤ a) (h1 : a ≤ 140737488351232) (v i : Nat) (hv : v < 18446744073709551616) (hi : i ≤ 9) (k : Nat) : zl.j3 (k + 1) a (v : Int) (i : Int) false = some (unz v, a + (i : Int) + 1, 0) := by
 rw [zl.j3, if_neg (by decide), zaZ v hv, zaG v hv, xp (i := a + (i : Int)) (by omega) (by omega), xp (i := a + (i : Int) + 1) (by omega) (by omega)]
 by_cases h : v % 2 = 1
 ·rw [if_pos (by omega), zco _ (by omega), zct v h]
 ·rw [if_neg (by omega), zbB v h]
theorem zcc (a v i : Int) (k : Nat) : zl.j3 (k + 1) a v i true = some (0, 0, 6) := by
 rw [zl.j3, if_pos rfl]
theorem ZS (a : Int) (lo k : Nat) (e : Int) (he : e ≠ 0) (r : Nat × Nat × Int) (hr : r = (0, 0, e)) : jI a lo k r = (0, 0, e) := by
 rw [hr, jI, if_neg he]
theorem Qg (a : Int) (lo k c : Nat) : jI a lo k (c, 1, 0) = (unz (lo + c * 128 ^ k), a + (k : Int) + 1, 0) := by
 rw [jI, if_pos rfl, Nat.mul_comm c]
 rfl
theorem Jo (lo c k : Nat) (hlo : lo < 128 ^ k) (hc : c < 128) : lo + c * 128 ^ k < 128 ^ (k + 1) := by
 have : c * 128 ^ k ≤ 127 * 128 ^ k := Nat.mul_le_mul_right _ (by omega)
 rw [Nat.pow_succ]
 omega
theorem XU (lo c k : Nat) (hlo : lo < 128 ^ k) (hc : c < 128) (hk : k ≤ 9) (h9 : k = 9 → c ≤ 1) : lo + c * 128 ^ k < 18446744073709551616 := by
 by_cases h : k = 9
 ·subst h
  have e9 : (128 : Nat) ^ 9 = 9223372036854775808 := by decide
  have := h9 rfl
  rw [e9] at hlo ⊢
  omega
 ·have h1 := Jo lo c k hlo hc
  have h2 : 128 ^ (k + 1) ≤ 128 ^ 9 := Nat.pow_le_pow_right (by decide) (by omega)
  have e9 : (128 : Nat) ^ 9 = 9223372036854775808 := by decide
  omega
theorem vj2 (s : ByteArray) (p lo i c k : Nat) (hp : p ≤ 140737488351232) (hi : i ≤ 9) (hlo : lo < 128 ^ i) (hc : c < 256) (h9 : i = 9 → c ≤ 1) (l : List Nat)
  (go : 128 ≤ c → i ≠ 9 → zl.l0 (k + 1) s (p : Int) ((lo + (c - 128) * 128 ^ i : Nat) : Int) ((i + 1 : Nat) : Int) = some (jI (p : Int) (lo + (c - 128) * 128 ^ i) (i + 1) (yO l (i + 1)))) :
  zl.j2 (k + 2) s (p : Int) (lo : Int) (i : Int) (c : Int) false = some (jI (p : Int) lo i (yO (c :: l) i)) := by
 rw [zl.j2, if_neg (by decide), VI lo c i hlo hc hi (fun h => by have := h9 h; omega), xp (i := 7 * (i : Int)) (by omega) (by omega), if_pos (by omega)]
 by_cases h : 128 ≤ c
 ·have e : c % 128 = c - 128 := by omega
  have hi9 : i ≠ 9 := fun h' => by have := h9 h'; omega
  rw [if_pos (by omega), z7 (by omega) (by omega), e, VN _ _ _ _ _ hi9 h]
  have := go h hi9
  rw [← this]
  rfl
 ·have e : c % 128 = c := by omega
  rw [if_neg (by omega), e]
  have hs : yO (c :: l) i = if c = 0 ∧ 0 < i then (0, 0, 6) else (c, 1, 0) := by
   rw [yO, if_neg (fun h' => by have := h9 h'.1; omega), if_neg h]
  by_cases h0 : c = 0
  ·rw [if_pos (by omega)]
   by_cases hi0 : 0 < i
   ·have hd : decide ((i : Int) > 0) = true := decide_eq_true (by omega)
    rw [hd, zcc, ZS _ _ _ 6 (by decide) _ (by rw [hs, if_pos ⟨h0, hi0⟩])]
   ·have hd : decide ((i : Int) > 0) = false := decide_eq_false (by omega)
    rw [hd, vj3 _ (by omega) (by omega) _ _ (XU lo c i hlo (by omega) hi h9) hi, hs, if_neg (fun h' => hi0 h'.2), Qg]
  ·rw [if_neg (by omega), vj3 _ (by omega) (by omega) _ _ (XU lo c i hlo (by omega) hi h9) hi, hs, if_neg (fun h' => h0 h'.1), Qg]
theorem vl0 (s : ByteArray) (hs : s.size ≤ 140737488351232) (p : Nat) (hp : p ≤ s.size) (e : Nat) : ∀ (i lo k : Nat), i + e = 9 → lo < 128 ^ i → 2 * e + 10 ≤ k → zl.l0 k s (p : Int) (lo : Int) (i : Int) = some (jI (p : Int) lo i (yO ((bl s).drop (p + i)) i)) := by
 induction e with
 | zero =>
  intro i lo k hi hlo hk
  obtain ⟨k, rfl⟩ : ∃ k', k = k' + 3 := ⟨k - 3, by omega⟩
  have hi9 : i = 9 := by omega
  rw [zl.l0, xp (i := (p : Int) + (i : Int)) (by omega) (by omega)]
  by_cases h : p + i < s.size
  ·rw [if_pos (by omega), if_pos (by omega), if_pos (by omega)]
   have hb : bt s ((p : Int) + (i : Int)) = _ := XC s (p + i) h
   rw [hb, YH s (p + i) h]
   have hc : (bl s)[p + i]'(by rw [z9]; exact h) < 256 := QT s _ _
   generalize (bl s)[p + i]'(by rw [z9]; exact h) = c at hc ⊢
   by_cases h1 : 1 < c
   ·have hd : decide ((c : Int) > 1) = true := decide_eq_true (by omega)
    rw [hd, zl.j2, if_pos rfl, ZS _ _ _ 6 (by decide) _ (by rw [yO, if_pos ⟨hi9, h1⟩])]
   ·have hd : decide ((c : Int) > 1) = false := decide_eq_false (by omega)
    rw [hd]
    exact vj2 s p lo i c k (by omega) (by omega) hlo hc (fun _ => by omega) _ (fun h' _ => absurd h' (by omega))
  ·rw [if_neg (by omega), List.drop_eq_nil_of_le (by rw [z9]; omega), ZS _ _ _ 5 (by decide) _ (by rw [yO])]
 | succ e ih =>
  intro i lo k hi hlo hk
  obtain ⟨k, rfl⟩ : ∃ k', k = k' + 3 := ⟨k - 3, by omega⟩
  rw [zl.l0, xp (i := (p : Int) + (i : Int)) (by omega) (by omega)]
  by_cases h : p + i < s.size
  ·rw [if_pos (by omega), if_pos (by omega), if_neg (by omega)]
   have hb : bt s ((p : Int) + (i : Int)) = _ := XC s (p + i) h
   rw [hb, YH s (p + i) h]
   have hc : (bl s)[p + i]'(by rw [z9]; exact h) < 256 := QT s _ _
   generalize (bl s)[p + i]'(by rw [z9]; exact h) = c at hc ⊢
   refine vj2 s p lo i c k (by omega) (by omega) hlo hc (fun h' => by omega) _ (fun h1 h2 => ?_)
   rw [ih (i + 1) _ (k + 1) (by omega) (Jo lo (c - 128) i hlo (by omega)) (by omega)]
   rfl
  ·rw [if_neg (by omega), List.drop_eq_nil_of_le (by rw [z9]; omega), ZS _ _ _ 5 (by decide) _ (by rw [yO])]
theorem vX (s : ByteArray) (hs : s.size ≤ 140737488351232) (a : Int) (k : Nat) (hk : 40 ≤ k) : zl.f k s a = some (yH s a) := by
 obtain ⟨k, rfl⟩ : ∃ k', k = k' + 1 := ⟨k - 1, by omega⟩
 unfold zl.f yH
 by_cases h0 : a < 0
 ·rw [if_pos h0, if_pos (Or.inl h0), zl.j0, if_pos rfl]
 ·rw [if_neg h0]
  by_cases h1 : (s.size : Int) < a
  ·have hd : decide (a > (s.size : Int)) = true := decide_eq_true h1
   rw [hd, if_pos (Or.inr h1), zl.j0, if_pos rfl]
  ·have hd : decide (a > (s.size : Int)) = false := decide_eq_false h1
   have hn : ¬ (a < 0 ∨ (s.size : Int) < a) := by omega
   rw [hd, if_neg hn, zl.j0, if_neg (by decide)]
   obtain ⟨p, rfl⟩ : ∃ p : Nat, a = (p : Int) := ⟨a.toNat, by omega⟩
   have := vl0 s hs p (by omega) 9 0 0 k (by omega) (by decide) (by omega)
   simpa using this
def yB.f (k : Nat) (a0 : ByteArray) (a1 : Int) (a2 : Int) : Option (Int × Int × Int) := (zl.f k a0 a1).bind fun bt101 => (if bt101.2.2 = 0 then (if bt101.1 < 0 then (some (0, 0, 6)) else (if bt101.1 > a2 then (some (0, 0, 4)) else (some (bt101.1, bt101.2.1, 0)))) else (some (0, 0, bt101.2.2)))
theorem yB.calls (k : Nat) (a0 : ByteArray) (a1 : Int) (a2 : Int) (r1 : Int) (r2 : Int) (r3 : Int) (w : World) (h : yB.f k a0 a1 a2 = some (r1, r2, r3)) :
  Calls Tryz.prog 155 #[.string a0, .int .i64 a1, .int .i64 a2] w fun e w' => e = .returned (.tuple #[.int .i64 r1, .int .i64 r2, .int .i64 r3]) ∧ zm w w' := by
 have H : ((zl.f k a0 a1).bind fun bt101 => (if bt101.2.2 = 0 then (if bt101.1 < 0 then (some (0, 0, 6)) else (if bt101.1 > a2 then (some (0, 0, 4)) else (some (bt101.1, bt101.2.1, 0)))) else (some (0, 0, bt101.2.2)))) = some (r1, r2, r3) := h
 clear h
 replace H := zcX.mp H
 obtain ⟨⟨t101, t102, t103⟩, A40, H⟩ := H
 replace H : (if t103 = 0 then (if t101 < 0 then (some (0, 0, 6)) else (if t101 > a2 then (some (0, 0, 4)) else (some (t101, t102, 0)))) else (some (0, 0, t103))) = some (r1, r2, r3) := H
 have A4 := za.mk A40
 clear A40
 by_cases c5 : t103 = 0
 ·rw [if_pos c5] at H
  have c5b0 : (t103 == 0) = true := beq_iff_eq.mpr c5
  have c5b1 : (t103 != 0) = false := bne_eq_false_iff_eq.mpr c5
  clear c5
  by_cases c6 : t101 < 0
  ·rw [if_pos c6] at H
   have c6b0 : decide (t101 < 0) = true := decide_eq_true c6
   clear c6
   simp only [Option.some.injEq, Prod.mk.injEq] at H
   obtain ⟨rfl, rfl, rfl⟩ := H
   go_enter Tryz.func155, Tryz.ntmps155
   go_wp2_with (first | ((with_reducible refine zy (f := 75) rfl ?_); refine zS (some 15) rfl rfl Tryz.func75 (by kernel_rfl) rfl #[.string a0, .int .i64 a1] rfl (by (try simp only [zcW, List.map_cons, List.map_nil]); first | done | rfl | (simp only [List.length_drop, List.length_take]; rfl)) ?_; (with_reducible refine (zl.calls k a0 a1 t101 t102 t103 _ A4.out).mono ?_); rintro e w' ⟨rfl, ⟨nd, rfl⟩⟩; refine ⟨_, rfl, ?_⟩))
   go_ret3
   exact ⟨by first | rfl | (simp; done) | (simp [*]; done), by repeat (first | exact zm.refl _ | apply zm.step)⟩
  ·rw [if_neg c6] at H
   have c6b0 : decide (t101 < 0) = false := decide_eq_false c6
   clear c6
   by_cases c7 : t101 > a2
   ·rw [if_pos c7] at H
    have c7b0 : decide (a2 < t101) = true := decide_eq_true c7
    clear c7
    simp only [Option.some.injEq, Prod.mk.injEq] at H
    obtain ⟨rfl, rfl, rfl⟩ := H
    go_enter Tryz.func155, Tryz.ntmps155
    go_wp2_with (first | ((with_reducible refine zy (f := 75) rfl ?_); refine zS (some 15) rfl rfl Tryz.func75 (by kernel_rfl) rfl #[.string a0, .int .i64 a1] rfl (by (try simp only [zcW, List.map_cons, List.map_nil]); first | done | rfl | (simp only [List.length_drop, List.length_take]; rfl)) ?_; (with_reducible refine (zl.calls k a0 a1 t101 t102 t103 _ A4.out).mono ?_); rintro e w' ⟨rfl, ⟨nd, rfl⟩⟩; refine ⟨_, rfl, ?_⟩))
    go_ret3
    exact ⟨by first | rfl | (simp; done) | (simp [*]; done), by repeat (first | exact zm.refl _ | apply zm.step)⟩
   ·rw [if_neg c7] at H
    have c7b0 : decide (a2 < t101) = false := decide_eq_false c7
    clear c7
    simp only [Option.some.injEq, Prod.mk.injEq] at H
    obtain ⟨rfl, rfl, rfl⟩ := H
    go_enter Tryz.func155, Tryz.ntmps155
    go_wp2_with (first | ((with_reducible refine zy (f := 75) rfl ?_); refine zS (some 15) rfl rfl Tryz.func75 (by kernel_rfl) rfl #[.string a0, .int .i64 a1] rfl (by (try simp only [zcW, List.map_cons, List.map_nil]); first | done | rfl | (simp only [List.length_drop, List.length_take]; rfl)) ?_; (with_reducible refine (zl.calls k a0 a1 t101 t102 t103 _ A4.out).mono ?_); rintro e w' ⟨rfl, ⟨nd, rfl⟩⟩; refine ⟨_, rfl, ?_⟩))
    go_ret3
    exact ⟨by first | rfl | (simp; done) | (simp [*]; done), by repeat (first | exact zm.refl _ | apply zm.step)⟩
 ·rw [if_neg c5] at H
  have c5b0 : (t103 == 0) = false := beq_eq_false_iff_ne.mpr c5
  have c5b1 : (t103 != 0) = true := bne_iff_ne.mpr c5
  simp only [Option.some.injEq, Prod.mk.injEq] at H
  obtain ⟨rfl, rfl, rfl⟩ := H
  go_enter Tryz.func155, Tryz.ntmps155
  go_wp2_with (first | ((with_reducible refine zy (f := 75) rfl ?_); refine zS (some 15) rfl rfl Tryz.func75 (by kernel_rfl) rfl #[.string a0, .int .i64 a1] rfl (by (try simp only [zcW, List.map_cons, List.map_nil]); first | done | rfl | (simp only [List.length_drop, List.length_take]; rfl)) ?_; (with_reducible refine (zl.calls k a0 a1 t101 t102 t103 _ A4.out).mono ?_); rintro e w' ⟨rfl, ⟨nd, rfl⟩⟩; refine ⟨_, rfl, ?_⟩))
  go_ret3
  exact ⟨by first | rfl | (simp; done) | (simp [*]; done), by repeat (first | exact zm.refl _ | apply zm.step)⟩
def zv.l0 : Nat → ByteArray → Int → List Int → Int → Int → Option (List Int × Int × Int)
 | 0, _, _, _, _, _ => none
 | k + 1, x0, x10, x12, x26, x27 => if x27 < x26 then ((zl.f k x0 x10).bind fun bt480 => (if bt480.2.2 = 0 then (if x12.length < 17592186044416 then (zv.l0 k x0 bt480.2.1 (x12 ++ [bt480.1]) x26 (wrap64 (x27 + 1))) else (none)) else (some (([] : List Int), 0, bt480.2.2)))) else (some (x12, x10, 0))
def zv.f (k : Nat) (a0 : ByteArray) (a1 : Int)  : Option (List Int × Int × Int) := (yB.f k a0 a1 256).bind fun bt477 => (if bt477.2.2 = 0 then (zv.l0 k a0 bt477.2.1 ([] : List Int) bt477.1 0) else (some (([] : List Int), 0, bt477.2.2)))
theorem zv.calls (k : Nat) (a0 : ByteArray) (a1 : Int)  (r1 : List Int) (r2 : Int) (r3 : Int) (w : World) (h : zv.f k a0 a1 = some (r1, r2, r3)) :
  Calls Tryz.prog 181 #[.string a0, .int .i64 a1, .func (Fn.func 75) #[] #[]] w fun e w' => ∃ v0_ : Value, e = .returned (.tuple #[v0_, .int .i64 r2, .int .i64 r3]) ∧ Kd.R (Kd.int .i64) 3 w' w.heap.size (fun _ => True) v0_ r1 ∧ Below w.heap.size w w' := by
 have HB := za.mk (Below.refl w.heap.size w)
 have H : ((yB.f k a0 a1 256).bind fun bt477 => (if bt477.2.2 = 0 then (zv.l0 k a0 bt477.2.1 ([] : List Int) bt477.1 0) else (some (([] : List Int), 0, bt477.2.2)))) = some (r1, r2, r3) := h
 clear h
 replace H := zcX.mp H
 obtain ⟨⟨t477, t478, t479⟩, A40, H⟩ := H
 replace H : (if t479 = 0 then (zv.l0 k a0 t478 ([] : List Int) t477 0) else (some (([] : List Int), 0, t479))) = some (r1, r2, r3) := H
 have A4 := za.mk A40
 clear A40
 by_cases c5 : t479 = 0
 ·rw [if_pos c5] at H
  have c5b0 : (t479 == 0) = true := beq_iff_eq.mpr c5
  have c5b1 : (t479 != 0) = false := bne_eq_false_iff_eq.mpr c5
  clear c5
  have H' := za.mk H
  clear H
  go_enter Tryz.func181, Tryz.ntmps181
  go_wp2_with (first | ((with_reducible refine zy (f := 155) rfl ?_); refine zS (some 19) rfl rfl Tryz.func155 (by kernel_rfl) rfl #[.string a0, .int .i64 a1, .int .i64 256] rfl (by (try simp only [zcW, List.map_cons, List.map_nil]); first | done | rfl | (simp only [List.length_drop, List.length_take]; rfl)) ?_; (with_reducible refine (yB.calls k a0 a1 256 t477 t478 t479 _ A4.out).mono ?_); rintro e w' ⟨rfl, ⟨nd, rfl⟩⟩; refine ⟨_, rfl, ?_⟩))
  go_loopg [10, 12, 27] k (fun kq v10 v12 v27 w' => ∃ (x10_1 : Int) (x12_1 : List Int) (x27_1 : Int), v10 = .int .i64 x10_1 ∧ v27 = .int .i64 x27_1 ∧ za (zv.l0 kq a0 x10_1 x12_1 t477 x27_1 = some (r1, r2, r3)) ∧ za (kq ≤ k) ∧ za (Kd.R (Kd.int .i64) 3 w' w.heap.size (fun _ => True) v12 x12_1) ∧ za (Below w.heap.size w w'))
  case atStart => exact ⟨(t478), (([] : List Int)), (0), (by first | rfl | (simp; done) | (simp [*]; done)), (by first | rfl | (simp; done) | (simp [*]; done)), H', ⟨Nat.le_refl _⟩, ⟨by first | exact Kd.R_nil _ _ _ _ _ | exact Kd.N_nil _ _ _ _ _ | exact Kd.V_nil _ _ _ _ _ | exact Kd.Q_nil _ _ _ _ _ | exact Kd.S_nil _ _ _ _ _⟩, ⟨by repeat (first | (with_reducible first | exact HB.out | apply zc | apply zb | apply zd) | exact HB.out)⟩⟩
  case round =>
   clear H'
   try clear c1
   try clear p2
   try clear c5
   try clear c5b0
   try clear c5b1
   obtain ⟨x10_1, x12_1, x27_1, rfl, rfl, HA, HK1, HO_12, HB⟩ := hrel
   cases gk with
   | zero => exact absurd HA.out (by simp [zv.l0])
   | succ k1 =>
    have H := HA.out
    clear HA
    simp only [zv.l0] at H
    by_cases c6 : x27_1 < t477
    ·rw [if_pos c6] at H
     have c6b0 : decide (x27_1 < t477) = true := decide_eq_true c6
     clear c6
     replace H := zcX.mp H
     obtain ⟨⟨t480, t481, t482⟩, A70, H⟩ := H
     replace H : (if t482 = 0 then (if x12_1.length < 17592186044416 then (zv.l0 k1 a0 t481 (x12_1 ++ [t480]) t477 (wrap64 (x27_1 + 1))) else (none)) else (some (([] : List Int), 0, t482))) = some (r1, r2, r3) := H
     have A7 := za.mk A70
     clear A70
     by_cases c8 : t482 = 0
     ·rw [if_pos c8] at H
      have c8b0 : (t482 == 0) = true := beq_iff_eq.mpr c8
      have c8b1 : (t482 != 0) = false := bne_eq_false_iff_eq.mpr c8
      clear c8
      by_cases c9 : x12_1.length < 17592186044416
      ·rw [if_pos c9] at H
       have LMc9 := za.mk c9
       clear c9
       obtain ⟨y483, hy483⟩ : ∃ y_ : List Int, y_ = (x12_1 ++ [t480]) := ⟨_, rfl⟩
       replace H : (zv.l0 k1 a0 t481 y483 t477 (wrap64 (x27_1 + 1))) = some (r1, r2, r3) := by first | (rw [hy483]; with_reducible exact H) | (have H2_ := (Option.bind_some _ _).symm.trans H; rw [hy483]; with_reducible exact H2_) | (have H2_ := (Option.bind_some _ _).symm.trans H; with_reducible exact H2_) | with_reducible exact H | (rw [hy483]; exact H) | exact H
       have Ny483 := za.mk hy483
       clear hy483
       have H' := za.mk H
       clear H
       go_wp2_with (first | ((with_reducible refine zI (N := 33) rfl ?_); refine jq (some 33) rfl rfl Tryz.func75 (by kernel_rfl) rfl #[.string a0, .int .i64 x10_1] rfl (by (try simp only [zcW, List.map_cons, List.map_nil]); first | done | rfl | (simp only [List.length_drop, List.length_take]; rfl)) ?_; (with_reducible refine (zl.calls k1 a0 x10_1 t480 t481 t482 _ A7.out).mono ?_); rintro e w' ⟨rfl, ⟨nd, rfl⟩⟩; refine ⟨_, rfl, ?_⟩) | ((with_reducible refine vF (b := .append) (xs := #[.tmp 40, .tmp 42]) rfl ?_); at_builtin; refine Kd.R_append (Kd.int .i64) (w0 := w) w.heap.size rfl (.tmp 40) (.tmp 42) 50 3 (.int .i64 0) 8 rfl Tryz.underlying50 info3 rfl (by decide) (by omega) u12 x12_1 t480 [.int .i64 t480] (fun _ => True) (fun _ => False) rfl rfl ?aP (fun _ hk => hk.elim) ?aF ?aO ?aB ?aS ?aL ?_; (case aP => exact rfl); (case aB => exact (by repeat (first | (with_reducible first | exact HB.out | apply zc | apply zb | apply zd) | exact HB.out))); (case aF => exact (fun _ _ => trivial)); (case aO => exact (by (with_reducible repeat (first | apply Kd.R_alloc | apply Kd.R_drewN | apply Kd.R_drew)); exact HO_12.out)); (case aS => exact (zF (by repeat (first | (with_reducible first | exact HB.out | apply zc | apply zb | apply zd) | exact HB.out)))); (case aL => have := LMc9.out; omega); intro v484 w10 ho hb hg hat; rw [← Ny483.out] at ho; have n0_ := za.mk (hb); have n1_ := za.mk (ho); clear HB; clear HO_12; have HB := n0_; have HO485 := n1_; clear n0_ n1_; clear ho hb hg hat))
       go_roundg k1
       case measure => have := HK1.out; omega
       case rel => exact ⟨(t481), (y483), (wrap64 (x27_1 + 1)), (by first | rfl | (simp; done) | (simp [*]; done)), (by first | rfl | (simp; done) | (simp [*]; done)), H', ⟨by have := HK1.out; omega⟩, ⟨by (with_reducible repeat (first | apply Kd.R_alloc | apply Kd.R_drewN | apply Kd.R_drew)); exact HO485.out⟩, ⟨by repeat (first | (with_reducible first | exact HB.out | apply zc | apply zb | apply zd) | exact HB.out)⟩⟩
      ·rw [if_neg c9] at H
       exact absurd H (by simp)
     ·rw [if_neg c8] at H
      have c8b0 : (t482 == 0) = false := beq_eq_false_iff_ne.mpr c8
      have c8b1 : (t482 != 0) = true := bne_iff_ne.mpr c8
      simp only [Option.some.injEq, Prod.mk.injEq] at H
      obtain ⟨rfl, rfl, rfl⟩ := H
      go_wp2_with (first | ((with_reducible refine zI (N := 33) rfl ?_); refine jq (some 33) rfl rfl Tryz.func75 (by kernel_rfl) rfl #[.string a0, .int .i64 x10_1] rfl (by (try simp only [zcW, List.map_cons, List.map_nil]); first | done | rfl | (simp only [List.length_drop, List.length_take]; rfl)) ?_; (with_reducible refine (zl.calls k1 a0 x10_1 t480 t481 t482 _ A7.out).mono ?_); rintro e w' ⟨rfl, ⟨nd, rfl⟩⟩; refine ⟨_, rfl, ?_⟩))
      go_ret3
      exact ⟨_, by first | rfl | (simp [zn, zo] <;> rfl) | (simp [*, zn, zo] <;> rfl), by first | exact Kd.R_nil _ _ _ _ _ | exact Kd.N_nil _ _ _ _ _ | exact Kd.V_nil _ _ _ _ _ | exact Kd.Q_nil _ _ _ _ _ | exact Kd.S_nil _ _ _ _ _, by repeat (first | (with_reducible first | exact HB.out | apply zc | apply zb | apply zd) | exact HB.out)⟩
    ·rw [if_neg c6] at H
     have c6b0 : decide (x27_1 < t477) = false := decide_eq_false c6
     clear c6
     simp only [Option.some.injEq, Prod.mk.injEq] at H
     obtain ⟨rfl, rfl, rfl⟩ := H
     go_wp2
     go_ret3
     exact ⟨_, by first | rfl | (simp [zn, zo] <;> rfl) | (simp [*, zn, zo] <;> rfl), by (with_reducible repeat (first | apply Kd.R_alloc | apply Kd.R_drewN | apply Kd.R_drew)); exact HO_12.out, by repeat (first | (with_reducible first | exact HB.out | apply zc | apply zb | apply zd) | exact HB.out)⟩
 ·rw [if_neg c5] at H
  have c5b0 : (t479 == 0) = false := beq_eq_false_iff_ne.mpr c5
  have c5b1 : (t479 != 0) = true := bne_iff_ne.mpr c5
  simp only [Option.some.injEq, Prod.mk.injEq] at H
  obtain ⟨rfl, rfl, rfl⟩ := H
  go_enter Tryz.func181, Tryz.ntmps181
  go_wp2_with (first | ((with_reducible refine zy (f := 155) rfl ?_); refine zS (some 19) rfl rfl Tryz.func155 (by kernel_rfl) rfl #[.string a0, .int .i64 a1, .int .i64 256] rfl (by (try simp only [zcW, List.map_cons, List.map_nil]); first | done | rfl | (simp only [List.length_drop, List.length_take]; rfl)) ?_; (with_reducible refine (yB.calls k a0 a1 256 t477 t478 t479 _ A4.out).mono ?_); rintro e w' ⟨rfl, ⟨nd, rfl⟩⟩; refine ⟨_, rfl, ?_⟩))
  go_ret3
  exact ⟨_, by first | rfl | (simp [zn, zo] <;> rfl) | (simp [*, zn, zo] <;> rfl), by first | exact Kd.R_nil _ _ _ _ _ | exact Kd.N_nil _ _ _ _ _ | exact Kd.V_nil _ _ _ _ _ | exact Kd.Q_nil _ _ _ _ _ | exact Kd.S_nil _ _ _ _ _, by repeat (first | (with_reducible first | exact HB.out | apply zc | apply zb | apply zd) | exact HB.out)⟩
def xa.f (k : Nat) (a0 : ByteArray) (a1 : Int) : Option (List Int × Int × Int) := (zv.f k a0 a1).bind fun bt486 => (some (bt486.1, bt486.2.1, bt486.2.2))
theorem xa.calls (k : Nat) (a0 : ByteArray) (a1 : Int) (r1 : List Int) (r2 : Int) (r3 : Int) (w : World) (h : xa.f k a0 a1 = some (r1, r2, r3)) :
  Calls Tryz.prog 174 #[.string a0, .int .i64 a1] w fun e w' => ∃ v0_ : Value, e = .returned (.tuple #[v0_, .int .i64 r2, .int .i64 r3]) ∧ Kd.R (Kd.int .i64) 3 w' w.heap.size (fun _ => True) v0_ r1 ∧ Below w.heap.size w w' := by
 have HB := za.mk (Below.refl w.heap.size w)
 have H : ((zv.f k a0 a1).bind fun bt486 => (some (bt486.1, bt486.2.1, bt486.2.2))) = some (r1, r2, r3) := h
 clear h
 replace H := zcX.mp H
 obtain ⟨⟨t486, t487, t488⟩, A30, H⟩ := H
 replace H : (some (t486, t487, t488)) = some (r1, r2, r3) := H
 have A3 := za.mk A30
 clear A30
 simp only [Option.some.injEq, Prod.mk.injEq] at H
 obtain ⟨rfl, rfl, rfl⟩ := H
 go_enter Tryz.func174, Tryz.ntmps174
 go_wp2_with (first | ((with_reducible refine zy (f := 181) rfl ?_); refine zS (some 9) rfl rfl Tryz.func181 (by kernel_rfl) rfl #[.string a0, .int .i64 a1, .func (Fn.func 75) #[] #[]] rfl (by (try simp only [zcW, List.map_cons, List.map_nil]); first | done | rfl | (simp only [List.length_drop, List.length_take]; rfl)) ?_; (with_reducible refine (zv.calls k a0 a1 t486 t487 t488 _ A3.out).mono ?_); rintro e w4 ⟨v489, rfl, ho0, hb⟩; refine ⟨_, rfl, ?_⟩; have n0_ := za.mk (Kd.R_lower ho0 (zF (by repeat (first | (with_reducible first | exact HB.out | apply zc | apply zb | apply zd) | exact HB.out)))); have n1_ := za.mk (zp (by repeat (first | (with_reducible first | exact HB.out | apply zc | apply zb | apply zd) | exact HB.out)) hb); clear HB; have HO490 := n0_; have HB := n1_; clear n0_ n1_; (try clear hb); (try clear hb2); (try clear hk); (try clear hi); (try clear ho0)))
 go_ret3
 exact ⟨_, by first | rfl | (simp [zn, zo] <;> rfl) | (simp [*, zn, zo] <;> rfl), by (with_reducible repeat (first | apply Kd.R_alloc | apply Kd.R_drewN | apply Kd.R_drew)); exact HO490.out, by repeat (first | (with_reducible first | exact HB.out | apply zc | apply zb | apply zd) | exact HB.out)⟩
def xg.f (k : Nat) (a0 : ByteArray) (a1 : Int) : Option (ByteArray × Int × Int) := (yB.f k a0 a1 4096).bind fun bt104 => (if bt104.2.2 = 0 then (if bt104.1 > (wrap64 ((a0.size : Int) - bt104.2.1)) then (some ((⟨#[]⟩ : ByteArray), 0, 5)) else (if 0 ≤ bt104.2.1 then (if bt104.2.1 ≤ (wrap64 (bt104.2.1 + bt104.1)) then (if (wrap64 (bt104.2.1 + bt104.1)) ≤ (a0.size : Int) then (some (a0.extract (bt104.2.1 : Int).toNat ((wrap64 (bt104.2.1 + bt104.1)) : Int).toNat, wrap64 (bt104.2.1 + bt104.1), 0)) else (none)) else (none)) else (none))) else (some ((⟨#[]⟩ : ByteArray), 0, bt104.2.2)))
theorem xg.calls (k : Nat) (a0 : ByteArray) (a1 : Int) (r1 : ByteArray) (r2 : Int) (r3 : Int) (w : World) (h : xg.f k a0 a1 = some (r1, r2, r3)) :
  Calls Tryz.prog 118 #[.string a0, .int .i64 a1] w fun e w' => e = .returned (.tuple #[.string r1, .int .i64 r2, .int .i64 r3]) ∧ zm w w' := by
 have H : ((yB.f k a0 a1 4096).bind fun bt104 => (if bt104.2.2 = 0 then (if bt104.1 > (wrap64 ((a0.size : Int) - bt104.2.1)) then (some ((⟨#[]⟩ : ByteArray), 0, 5)) else (if 0 ≤ bt104.2.1 then (if bt104.2.1 ≤ (wrap64 (bt104.2.1 + bt104.1)) then (if (wrap64 (bt104.2.1 + bt104.1)) ≤ (a0.size : Int) then (some (a0.extract (bt104.2.1 : Int).toNat ((wrap64 (bt104.2.1 + bt104.1)) : Int).toNat, wrap64 (bt104.2.1 + bt104.1), 0)) else (none)) else (none)) else (none))) else (some ((⟨#[]⟩ : ByteArray), 0, bt104.2.2)))) = some (r1, r2, r3) := h
 clear h
 replace H := zcX.mp H
 obtain ⟨⟨t104, t105, t106⟩, A30, H⟩ := H
 replace H : (if t106 = 0 then (if t104 > (wrap64 ((a0.size : Int) - t105)) then (some ((⟨#[]⟩ : ByteArray), 0, 5)) else (if 0 ≤ t105 then (if t105 ≤ (wrap64 (t105 + t104)) then (if (wrap64 (t105 + t104)) ≤ (a0.size : Int) then (some (a0.extract (t105 : Int).toNat ((wrap64 (t105 + t104)) : Int).toNat, wrap64 (t105 + t104), 0)) else (none)) else (none)) else (none))) else (some ((⟨#[]⟩ : ByteArray), 0, t106))) = some (r1, r2, r3) := H
 have A3 := za.mk A30
 clear A30
 by_cases c4 : t106 = 0
 ·rw [if_pos c4] at H
  have c4b0 : (t106 == 0) = true := beq_iff_eq.mpr c4
  have c4b1 : (t106 != 0) = false := bne_eq_false_iff_eq.mpr c4
  clear c4
  by_cases c5 : t104 > (wrap64 ((a0.size : Int) - t105))
  ·rw [if_pos c5] at H
   have c5b0 : decide ((wrap64 ((a0.size : Int) - t105)) < t104) = true := decide_eq_true c5
   clear c5
   simp only [Option.some.injEq, Prod.mk.injEq] at H
   obtain ⟨rfl, rfl, rfl⟩ := H
   go_enter Tryz.func118, Tryz.ntmps118
   go_wp2_with (first | ((with_reducible refine zy (f := 155) rfl ?_); refine zS (some 13) rfl rfl Tryz.func155 (by kernel_rfl) rfl #[.string a0, .int .i64 a1, .int .i64 4096] rfl (by (try simp only [zcW, List.map_cons, List.map_nil]); first | done | rfl | (simp only [List.length_drop, List.length_take]; rfl)) ?_; (with_reducible refine (yB.calls k a0 a1 4096 t104 t105 t106 _ A3.out).mono ?_); rintro e w' ⟨rfl, ⟨nd, rfl⟩⟩; refine ⟨_, rfl, ?_⟩))
   go_ret3
   exact ⟨by first | rfl | (simp; done) | (simp [*]; done), by repeat (first | exact zm.refl _ | apply zm.step)⟩
  ·rw [if_neg c5] at H
   have c5b0 : decide ((wrap64 ((a0.size : Int) - t105)) < t104) = false := decide_eq_false c5
   clear c5
   by_cases c6 : 0 ≤ t105
   ·rw [if_pos c6] at H
    have c6b0 := eq_true c6
    have c6b1 : decide (0 ≤ t105) = true := decide_eq_true c6
    clear c6
    by_cases c7 : t105 ≤ (wrap64 (t105 + t104))
    ·rw [if_pos c7] at H
     have c7b0 := eq_true c7
     have c7b1 : decide (t105 ≤ (wrap64 (t105 + t104))) = true := decide_eq_true c7
     by_cases c8 : (wrap64 (t105 + t104)) ≤ (a0.size : Int)
     ·rw [if_pos c8] at H
      have c8b0 := eq_true c8
      have c8b1 : decide ((wrap64 (t105 + t104)) ≤ (a0.size : Int)) = true := decide_eq_true c8
      simp only [Option.some.injEq, Prod.mk.injEq] at H
      obtain ⟨rfl, rfl, rfl⟩ := H
      go_enter Tryz.func118, Tryz.ntmps118
      go_wp2_with (first | ((with_reducible refine zy (f := 155) rfl ?_); refine zS (some 13) rfl rfl Tryz.func155 (by kernel_rfl) rfl #[.string a0, .int .i64 a1, .int .i64 4096] rfl (by (try simp only [zcW, List.map_cons, List.map_nil]); first | done | rfl | (simp only [List.length_drop, List.length_take]; rfl)) ?_; (with_reducible refine (yB.calls k a0 a1 4096 t104 t105 t106 _ A3.out).mono ?_); rintro e w' ⟨rfl, ⟨nd, rfl⟩⟩; refine ⟨_, rfl, ?_⟩))
      go_ret3
      exact ⟨by first | rfl | (simp; done) | (simp [*]; done), by repeat (first | exact zm.refl _ | apply zm.step)⟩
     ·rw [if_neg c8] at H
      exact absurd H (by simp)
    ·rw [if_neg c7] at H
     exact absurd H (by simp)
   ·rw [if_neg c6] at H
    exact absurd H (by simp)
 ·rw [if_neg c4] at H
  have c4b0 : (t106 == 0) = false := beq_eq_false_iff_ne.mpr c4
  have c4b1 : (t106 != 0) = true := bne_iff_ne.mpr c4
  simp only [Option.some.injEq, Prod.mk.injEq] at H
  obtain ⟨rfl, rfl, rfl⟩ := H
  go_enter Tryz.func118, Tryz.ntmps118
  go_wp2_with (first | ((with_reducible refine zy (f := 155) rfl ?_); refine zS (some 13) rfl rfl Tryz.func155 (by kernel_rfl) rfl #[.string a0, .int .i64 a1, .int .i64 4096] rfl (by (try simp only [zcW, List.map_cons, List.map_nil]); first | done | rfl | (simp only [List.length_drop, List.length_take]; rfl)) ?_; (with_reducible refine (yB.calls k a0 a1 4096 t104 t105 t106 _ A3.out).mono ?_); rintro e w' ⟨rfl, ⟨nd, rfl⟩⟩; refine ⟨_, rfl, ?_⟩))
  go_ret3
  exact ⟨by first | rfl | (simp; done) | (simp [*]; done), by repeat (first | exact zm.refl _ | apply zm.step)⟩
theorem zbV (l : List Nat) : ∀ k, (yO l k).2.2 = 0 → 1 ≤ (yO l k).2.1 ∧ (yO l k).2.1 ≤ l.length := by
 induction l with
 | nil => intro k h; rw [yO] at h; exact absurd h (by decide)
 | cons c l ih =>
  intro k
  rw [yO]
  split
  ·intro h; exact absurd h (by decide)
  ·split
   ·split
    ·rename_i h3
     intro h
     have := ih (k + 1) h3
     simp only [List.length_cons]
     omega
    ·rename_i h3
     intro h
     exact absurd h h3
   ·split
    ·intro h; exact absurd h (by decide)
    ·intro h
     simp only [List.length_cons]
     omega
theorem zbq (l : List Nat) : ∀ k, k ≤ 9 → (∀ c ∈ l, c < 256) → (yO l k).2.2 = 0 → 128 ^ k * (yO l k).1 < 18446744073709551616 ∧ (yO l k).2.1 + k ≤ 10 := by
 have e9 : (128 : Nat) ^ 9 = 9223372036854775808 := by decide
 induction l with
 | nil => intro k _ _ h; rw [yO] at h; exact absurd h (by decide)
 | cons c l ih =>
  intro k hk hl
  have hc := hl c (List.mem_cons_self ..)
  rw [yO]
  split
  ·intro h; exact absurd h (by decide)
  ·rename_i h1
   split
   ·rename_i h2
    split
    ·rename_i h3
     intro h
     have hk9 : k ≠ 9 := fun h' => h1 ⟨h', by omega⟩
     obtain ⟨i1, i2⟩ := ih (k + 1) (by omega) (fun x hx => hl x (List.mem_cons_of_mem _ hx)) h3
     generalize yO l (k + 1) = r at i1 i2 ⊢
     have e : 128 ^ k * (c - 128 + 128 * r.1) = 128 ^ k * (c - 128) + 128 ^ (k + 1) * r.1 := by
      rw [Nat.mul_add, Nat.pow_succ, Nat.mul_assoc]
     refine ⟨?_, by show r.2.1 + 1 + k ≤ 10; omega⟩
     show 128 ^ k * (c - 128 + 128 * r.1) < _
     rw [e]
     have hm : 128 ^ (k + 1) ∣ 18446744073709551616 - 128 ^ (k + 1) * r.1 := by
      have hd : 128 ^ (k + 1) ∣ 18446744073709551616 := by
       have : (18446744073709551616 : Nat) = 128 ^ 9 * 2 := by decide
       rw [this]
       exact Nat.dvd_trans (Nat.pow_dvd_pow _ (by omega)) (Nat.dvd_mul_right _ _)
      exact Nat.dvd_sub hd (Nat.dvd_mul_right _ _)
     have hle := Nat.le_of_dvd (by omega) hm
     have hx : 128 ^ k * (c - 128) < 128 ^ (k + 1) := by
      rw [Nat.pow_succ]
      exact Nat.mul_lt_mul_of_pos_left (by omega) (Nat.pow_pos (by decide))
     omega
    ·rename_i h3
     intro h
     exact absurd h h3
   ·rename_i h2
    split
    ·intro h; exact absurd h (by decide)
    ·intro _
     have := XU 0 c k (Nat.pow_pos (by decide)) (by omega) hk (fun h' => by have := fun h'' => h1 ⟨h', h''⟩; omega)
     rw [Nat.zero_add, Nat.mul_comm] at this
     exact ⟨this, by show 1 + k ≤ 10; omega⟩
theorem Jl (s : ByteArray) (a : Int) (h : (yH s a).2.2 = 0) : 0 ≤ a ∧ a < (yH s a).2.1 ∧ (yH s a).2.1 ≤ (s.size : Int) ∧ (yO ((bl s).drop a.toNat) 0).2.2 = 0
  ∧ yH s a = (unz (yO ((bl s).drop a.toNat) 0).1, a + ((yO ((bl s).drop a.toNat) 0).2.1 : Int), 0) := by
 unfold yH at h ⊢
 by_cases h0 : a < 0 ∨ (s.size : Int) < a
 ·rw [if_pos h0] at h; exact absurd h (by decide)
 ·rw [if_neg h0] at h ⊢
  unfold jI at h ⊢
  by_cases h1 : (yO ((bl s).drop a.toNat) 0).2.2 = 0
  ·have h2 := zbV _ _ h1
   rw [List.length_drop, z9] at h2
   rw [if_pos h1]
   refine ⟨by omega, ?_, ?_, h1, ?_⟩
   ·show a < a + ((0 : Nat) : Int) + _
    omega
   ·show a + ((0 : Nat) : Int) + _ ≤ _
    omega
   ·have e1 : 0 + 128 ^ 0 * (yO ((bl s).drop a.toNat) 0).1 = (yO ((bl s).drop a.toNat) 0).1 := by simp
    have e2 : a + ((0 : Nat) : Int) = a := by omega
    rw [e1, e2]
  ·rw [if_neg h1] at h
   exact absurd h h1
theorem zci (u : Nat) (h : u < 18446744073709551616) : -9223372036854775808 ≤ unz u ∧ unz u ≤ 9223372036854775807 := by
 unfold unz
 split <;> omega
theorem zar (s : ByteArray) (a : Int) (h : (yH s a).2.2 = 0) : -9223372036854775808 ≤ (yH s a).1 ∧ (yH s a).1 ≤ 9223372036854775807 := by
 obtain ⟨_, _, _, h1, e⟩ := Jl s a h
 rw [e]
 have := (zbq _ 0 (by omega) (fun c hc => jk s c (List.mem_of_mem_drop hc)) h1).1
 exact zci _ (by simpa using this)
def ym (s : ByteArray) (a m : Int) : Int × Int × Int := if (yH s a).2.2 = 0 then (if (yH s a).1 < 0 then (0, 0, 6) else (if (yH s a).1 > m then (0, 0, 4) else ((yH s a).1, (yH s a).2.1, 0))) else (0, 0, (yH s a).2.2)
theorem vT (s : ByteArray) (a m : Int) (hs : s.size ≤ 140737488351232) (hm : 0 ≤ m) (h : (ym s a m).2.2 = 0) : 0 ≤ (ym s a m).1 ∧ (ym s a m).1 ≤ m ∧ 0 ≤ a ∧ a < (ym s a m).2.1 ∧ (ym s a m).2.1 ≤ (s.size : Int) := by
 unfold ym at h ⊢
 by_cases h0 : (yH s a).2.2 = 0
 ·have hr := Jl s a h0
  rw [if_pos h0] at h ⊢
  by_cases h1 : (yH s a).1 < 0
  ·rw [if_pos h1] at h; exact absurd h (by decide)
  ·rw [if_neg h1] at h ⊢
   by_cases h2 : (yH s a).1 > m
   ·rw [if_pos h2] at h; exact absurd h (by decide)
   ·rw [if_neg h2]
    exact ⟨Int.not_lt.mp h1, Int.not_lt.mp h2, hr.1, hr.2.1, hr.2.2.1⟩
 ·rw [if_neg h0] at h
  exact absurd h h0
theorem Xh (s : ByteArray) (hs : s.size ≤ 140737488351232) (a m : Int) (k : Nat) (hk : 40 ≤ k) : yB.f k s a m = some (ym s a m) := by
 unfold yB.f ym
 rw [zD (vX s hs a k hk)]
 split
 ·split
  ·rfl
  ·split <;> rfl
 ·rfl
def QK (s : ByteArray) (a : Int) : ByteArray × Int × Int := if (ym s a 4096).2.2 = 0 then (if (s.size : Int) < (ym s a 4096).2.1 + (ym s a 4096).1 then (⟨#[]⟩, 0, 5) else (s.extract (ym s a 4096).2.1.toNat ((ym s a 4096).2.1 + (ym s a 4096).1).toNat, (ym s a 4096).2.1 + (ym s a 4096).1, 0)) else (⟨#[]⟩, 0, (ym s a 4096).2.2)
theorem QH (s : ByteArray) (hs : s.size ≤ 140737488351232) (a : Int) (k : Nat) (hk : 50 ≤ k) : xg.f k s a = some (QK s a) := by
 unfold xg.f QK
 rw [zD (Xh s hs a 4096 k (by omega))]
 by_cases h : (ym s a 4096).2.2 = 0
 ·obtain ⟨h1, h2, h3, h4, h5⟩ := vT s a 4096 hs (by omega) h
  rw [if_pos h, if_pos h]
  generalize ym s a 4096 = c at h1 h2 h4 h5 ⊢
  rw [xp (i := (s.size : Int) - c.2.1) (by omega) (by omega), xp (i := c.2.1 + c.1) (by omega) (by omega)]
  by_cases h6 : (s.size : Int) < c.2.1 + c.1
  ·rw [if_pos (by omega), if_pos h6]
  ·rw [if_neg (by omega), if_neg h6, if_pos (by omega), if_pos (by omega), if_pos (by omega)]
 ·rw [if_neg h, if_neg h]
def vu {α : Type} (R : Int → α × Int × Int) : Nat → Int → List α → List α × Int × Int
 | 0, a, acc => (acc, a, 0)
 | d + 1, a, acc => if (R a).2.2 = 0 then vu R d (R a).2.1 (acc ++ [(R a).1]) else ([], 0, (R a).2.2)
def ZC {α : Type} (R : Int → α × Int × Int) (s : ByteArray) (a : Int) : List α × Int × Int := if (ym s a 256).2.2 = 0 then vu R (ym s a 256).1.toNat (ym s a 256).2.1 [] else ([], 0, (ym s a 256).2.2)
theorem zat {α : Type} (R : Int → α × Int × Int) (d : Nat) : ∀ (a : Int) (acc : List α), (vu R d a acc).1.length ≤ acc.length + d := by
 induction d with
 | zero => intro a acc; exact Nat.le_refl _
 | succ d ih =>
  intro a acc
  rw [vu]
  split
  ·have := ih (R a).2.1 (acc ++ [(R a).1])
   rw [zc0, List.length_singleton] at this
   omega
  ·exact Nat.zero_le _
theorem V6 {α : Type} (R : Int → α × Int × Int) (s : ByteArray) (hs : s.size ≤ 140737488351232) (a : Int) : (ZC R s a).1.length ≤ 256 := by
 unfold ZC
 split
 ·rename_i h
  obtain ⟨h1, h2, _⟩ := vT s a 256 hs (by omega) h
  have := zat R (ym s a 256).1.toNat (ym s a 256).2.1 []
  simp only [List.length_nil] at this
  omega
 ·exact Nat.zero_le _
theorem rnums (s : ByteArray) (hs : s.size ≤ 140737488351232) (n : Nat) (hn : n ≤ 256) (d : Nat) : ∀ (k i : Nat) (a : Int) (acc : List Int), i + d = n → acc.length = i → d + 60 ≤ k → zv.l0 k s a acc (n : Int) (i : Int) = some (vu (yH s) d a acc) := by
 induction d with
 | zero =>
  intro k i a acc hi hl hk
  obtain ⟨k, rfl⟩ : ∃ k', k = k' + 1 := ⟨k - 1, by omega⟩
  rw [zv.l0, if_neg (by omega), vu]
 | succ d ih =>
  intro k i a acc hi hl hk
  obtain ⟨k, rfl⟩ : ∃ k', k = k' + 1 := ⟨k - 1, by omega⟩
  rw [zv.l0, if_pos (by omega), zD (vX s hs a k (by omega)), vu]
  by_cases h : (yH s a).2.2 = 0
  ·rw [if_pos h, if_pos h, if_pos (by omega), z7 (by omega) (by omega)]
   exact ih k (i + 1) _ _ (by omega) (by simp [hl]) (by omega)
  ·rw [if_neg h, if_neg h]
theorem Vk (s : ByteArray) (hs : s.size ≤ 140737488351232) (a : Int) (k : Nat) (hk : 400 ≤ k) : zv.f k s a = some (ZC (yH s) s a) := by
 unfold zv.f ZC
 rw [zD (Xh s hs a 256 k (by omega))]
 by_cases h : (ym s a 256).2.2 = 0
 ·obtain ⟨h1, h2, h3, h4, h5⟩ := vT s a 256 hs (by omega) h
  rw [if_pos h, if_pos h]
  have e : (ym s a 256).1 = (((ym s a 256).1.toNat : Nat) : Int) := by omega
  have := rnums s hs (ym s a 256).1.toNat (by omega) (ym s a 256).1.toNat k 0 (ym s a 256).2.1 [] (by omega) rfl (by omega)
  rw [← this]
  first | (rw [← e]; rfl) | rfl
 ·rw [if_neg h, if_neg h]
theorem Qy (s : ByteArray) (hs : s.size ≤ 140737488351232) (a : Int) (k : Nat) (hk : 400 ≤ k) : xa.f k s a = some (ZC (yH s) s a) := by
 unfold xa.f
 rw [zD (Vk s hs a k hk)]
theorem zV (x y : ByteArray) : (x ++ y).size = x.size + y.size := ByteArray.size_append
def vm {α : Type} (T : α → ByteArray × Int) : List α → ByteArray
 | [] => ⟨#[]⟩
 | x :: l => (T x).1 ++ vm T l
theorem yK (a b c : ByteArray) : a ++ b ++ c = a ++ (b ++ c) := Zg (by simp only [qq, List.append_assoc])
theorem jd (a : ByteArray) : a ++ (⟨#[]⟩ : ByteArray) = a := Zg (by rw [qq]; exact List.append_nil _)
theorem Jf {α : Type} (T : α → ByteArray × Int) (l : List α) : ∀ acc, (qh T l acc).2 = 0 → (∀ x ∈ l, (T x).2 = 0) ∧ (qh T l acc).1 = acc ++ vm T l := by
 induction l with
 | nil => intro acc _; exact ⟨fun x hx => absurd hx (List.not_mem_nil), by rw [qh, vm, jd]⟩
 | cons x l ih =>
  intro acc
  rw [qh]
  by_cases h : (T x).2 = 0
  ·rw [if_pos h]
   intro h2
   obtain ⟨i1, i2⟩ := ih _ h2
   refine ⟨fun y hy => ?_, by rw [i2, vm, yK]⟩
   rcases List.mem_cons.mp hy with rfl | hy
   ·exact h
   ·exact i1 y hy
  ·rw [if_neg h]
   intro h2
   exact absurd h2 h
theorem Z6 {α : Type} (T : α → ByteArray × Int) (l : List α) : ∀ acc, (∀ x ∈ l, (T x).2 = 0) → qh T l acc = (acc ++ vm T l, 0) := by
 induction l with
 | nil => intro acc _; rw [qh, vm, jd]
 | cons x l ih =>
  intro acc h
  rw [qh, if_pos (h x (List.mem_cons_self ..)), ih _ (fun y hy => h y (List.mem_cons_of_mem _ hy)), vm, yK]
theorem zal {α : Type} (Q : α → Prop) (R : Int → α × Int × Int) (hR : ∀ a, (R a).2.2 = 0 → Q (R a).1) (d : Nat) : ∀ (a : Int) (acc : List α), (∀ x ∈ acc, Q x) → ∀ x ∈ (vu R d a acc).1, Q x := by
 induction d with
 | zero => intro a acc h; exact h
 | succ d ih =>
  intro a acc h
  rw [vu]
  by_cases h1 : (R a).2.2 = 0
  ·rw [if_pos h1]
   refine ih _ _ (fun x hx => ?_)
   rcases List.mem_append.mp hx with hx | hx
   ·exact h x hx
   ·rw [List.mem_singleton.mp hx]
    exact hR a h1
  ·rw [if_neg h1]
   intro x hx
   exact absurd hx (List.not_mem_nil)
theorem VO {α : Type} (Q : α → Prop) (R : Int → α × Int × Int) (hR : ∀ a, (R a).2.2 = 0 → Q (R a).1) (s : ByteArray) (a : Int) : ∀ x ∈ (ZC R s a).1, Q x := by
 unfold ZC
 split
 ·exact zal Q R hR _ _ [] (fun x hx => absurd hx (List.not_mem_nil))
 ·intro x hx
  exact absurd hx (List.not_mem_nil)
theorem Zk (n : Int) (h0 : -9223372036854775808 ≤ n) (h1 : n ≤ 9223372036854775807) : (Lit.int .i64 n).wf = true := by
 have m1 : IntKind.i64.min = -9223372036854775808 := rfl
 have m2 : IntKind.i64.max = 9223372036854775807 := rfl
 simp only [Lit.wf, Bool.and_eq_true, decide_eq_true_eq]
 omega
theorem Yh {α : Type} (T : α → ByteArray × Int) (M : Nat) (l : List α) : (∀ x ∈ l, (T x).1.size ≤ M) → (vm T l).size ≤ M * l.length := by
 induction l with
 | nil => intro _; exact Nat.zero_le _
 | cons x l ih =>
  intro h
  have h1 := h x (List.mem_cons_self ..)
  have h2 := ih (fun y hy => h y (List.mem_cons_of_mem _ hy))
  rw [vm, zV, List.length_cons, Nat.mul_succ]
  omega
theorem QE (l : List Int) : (xn l).2 = 0 → (xn l).1.size ≤ 10000000 := by
 unfold xn
 by_cases hl : 256 < l.length
 ·rw [if_pos hl]; intro h; exact absurd h (by decide)
 ·rw [if_neg hl]
  intro h
  rw [(Jf _ l _ h).2, zV]
  have h1 := zL (l.length : Int)
  have h2 := Yh (fun n => (yp n, (0 : Int))) 10 l (fun x _ => zL x)
  omega
theorem Jz (l : List ByteArray) : (qO l).2 = 0 → (qO l).1.size ≤ 10000000 := by
 unfold qO
 by_cases hl : 256 < l.length
 ·rw [if_pos hl]; intro h; exact absurd h (by decide)
 ·rw [if_neg hl]
  intro h
  rw [(Jf _ l _ h).2, zV]
  have h1 := zL (l.length : Int)
  have h2 := Yh qF 4106 l (fun x _ => qE x)
  omega
theorem yN (a b : ByteArray) : bytesOf (a ++ b) = bytesOf a ++ bytesOf b := by
 rw [qC, qC, qC, qq, List.map_append]
theorem jP : bytesOf (⟨#[]⟩ : ByteArray) = [] := rfl
theorem Zj (a : ByteArray) : (⟨#[]⟩ : ByteArray) ++ a = a := Zg (by rw [qq]; rfl)
def jH {α : Type} (B : α → ByteArray) (l : List α) : ByteArray := vm (fun x => (B x, (0 : Int))) l
def yx {α : Type} (B : α → ByteArray) (l : List α) : ByteArray := yp (l.length : Int) ++ jH B l
def xz (l : List Int) : ByteArray := jH yp l
def qW (s : ByteArray) : ByteArray := yp (s.size : Int) ++ s
theorem jK {α : Type} (B : α → ByteArray) : jH B [] = ⟨#[]⟩ := rfl
theorem qo {α : Type} (B : α → ByteArray) (x : α) (l : List α) : jH B (x :: l) = B x ++ jH B l := rfl
theorem jf {α : Type} (B : α → ByteArray) (M : Nat) (l : List α) (h : ∀ x ∈ l, (B x).size ≤ M) : (jH B l).size ≤ M * l.length := Yh _ M l h
theorem VD (l : List Int) : (xz l).size ≤ 10 * l.length := jf yp 10 l (fun x _ => zL x)
theorem Qe (a b : Int) : xz [a, b] = yp a ++ yp b := by
 unfold xz
 rw [qo, qo, jK, jd]
theorem Qi (a : Int) : xz [a] = yp a := by
 unfold xz
 rw [qo, jK, jd]
theorem qV (l : List Int) : (yx yp l).size ≤ 10 + 10 * l.length := by
 have h1 := zL (l.length : Int)
 have h2 := jf yp 10 l (fun x _ => zL x)
 unfold yx
 rw [zV]
 omega
theorem qd (s : ByteArray) : (qW s).size ≤ 10 + s.size := by
 have := zL (s.size : Int)
 unfold qW
 rw [zV]
 omega
theorem jV (l : List Int) : (xn l).1.size ≤ 10000000 := by
 by_cases h : 256 < l.length
 ·unfold xn
  rw [if_pos h]
  exact Nat.zero_le _
 ·exact QE l (by
   unfold xn
   rw [if_neg h, Z6 _ _ _ (fun _ _ => rfl)])
theorem jB (l : List Int) (h : l.length ≤ 256) : xn l = (yx yp l, 0) := by
 unfold xn
 rw [if_neg (by omega), Z6 _ _ _ (fun _ _ => rfl)]
 rfl
theorem qQ (s : ByteArray) (h : s.size ≤ 4096) : qF s = (qW s, 0) := by
 unfold qF
 rw [if_neg (by omega)]
 rfl
theorem V7 (l : List Int) (h : ∀ n ∈ l, (Lit.int .i64 n).wf = true) (hl : l.length ≤ 1048576) (d : Nat) : ∀ (k i : Nat) (acc : ByteArray), i + d = l.length → d + 1 ≤ k → acc.size + 10 * d < 140737488355328 →
  zu.l0 k (bytesOf acc) l (l.length : Int) (i : Int) = some (bytesOf (acc ++ xz (l.drop i))) := by
 induction d with
 | zero =>
  intro k i acc hi hk ha
  obtain ⟨k, rfl⟩ : ∃ m, k = m + 1 := ⟨k - 1, by omega⟩
  rw [zu.l0, if_neg (by omega), List.drop_of_length_le (by omega), xz, jK, jd]
 | succ d ih =>
  intro k i acc hi hk ha
  obtain ⟨k, rfl⟩ : ∃ m, k = m + 1 := ⟨k - 1, by omega⟩
  have hlt : i < l.length := by omega
  have hb := Q7 (h _ (List.getElem_mem hlt))
  have hs := zL l[i]
  rw [zu.l0, if_pos (by omega), if_pos (by omega), if_pos (by omega), QO l i hlt, zD (ql _ hb.1 hb.2), if_pos (by rw [yb]; omega), z7 (by omega) (by omega), List.drop_eq_getElem_cons hlt, ← yN]
  have := ih k (i + 1) (acc ++ yp l[i]) (by omega) (by omega) (by rw [zV]; omega)
  rw [yK] at this
  exact this
theorem vP (l : List Int) (h : ∀ n ∈ l, (Lit.int .i64 n).wf = true) (hl : l.length ≤ 1048576) (acc : ByteArray) (ha : acc.size + 10 * l.length < 140737488355328) (k : Nat) (hk : l.length + 1 ≤ k) :
  zu.f k (bytesOf acc) l = some (bytesOf (acc ++ xz l)) := by
 unfold zu.f
 exact V7 l h hl l.length k 0 acc (by omega) hk ha
theorem Yl {a b : Int} (ha : (Lit.int .i64 a).wf = true) (hb : (Lit.int .i64 b).wf = true) : ∀ n ∈ [a, b], (Lit.int .i64 n).wf = true := by
 intro n hn
 rcases List.mem_cons.1 hn with rfl | hn
 ·exact ha
 ·rcases List.mem_cons.1 hn with rfl | hn
  ·exact hb
  ·cases hn
theorem Yt {a : Int} (ha : (Lit.int .i64 a).wf = true) : ∀ n ∈ [a], (Lit.int .i64 n).wf = true := by
 intro n hn
 rcases List.mem_cons.1 hn with rfl | hn
 ·exact ha
 ·cases hn
theorem ZO (a b : Int) (ha : (Lit.int .i64 a).wf = true) (hb : (Lit.int .i64 b).wf = true) (acc : ByteArray) (hacc : acc.size + 20 < 140737488355328) (k : Nat) (hk : 3 ≤ k) :
  zu.f k (bytesOf acc) [a, b] = some (bytesOf (acc ++ (yp a ++ yp b))) := by
 rw [vP [a, b] (Yl ha hb) (by simp) acc (by simp; omega) k (by simp; omega), Qe]
theorem qL (a : Int) (ha : (Lit.int .i64 a).wf = true) (acc : ByteArray) (hacc : acc.size + 20 < 140737488355328) (k : Nat) (hk : 3 ≤ k) :
  zu.f k (bytesOf acc) [a] = some (bytesOf (acc ++ yp a)) := by
 rw [vP [a] (Yt ha) (by simp) acc (by simp; omega) k (by simp; omega), Qi]
theorem Zu (s : ByteArray) (hs : s.size ≤ 140737488351232) (acc : ByteArray) (ha : acc.size + 4106 < 140737488355328) : xq.f (bytesOf acc) s = some (bytesOf (acc ++ (qF s).1)) := by
 have := qE s
 unfold xq.f
 rw [zD (Z7 s hs), if_pos (by rw [yb]; omega), ← yN]
theorem qM (l : List Int) (h : ∀ n ∈ l, (Lit.int .i64 n).wf = true) (acc : ByteArray) (ha : acc.size + 10000000 < 140737488355328) : yc.f (bytesOf acc) l = some (bytesOf (acc ++ (xn l).1)) := by
 have := jV l
 unfold yc.f
 rw [zD (QU l h), if_pos (by rw [yb]; omega), ← yN]
def xB (b : Bool) (y : ByteArray) : ByteArray × Int := if b = true then (y, 0) else (⟨#[]⟩, 2)
theorem vk (b : Bool) (y : ByteArray) : ya.f b (bytesOf y) = some (xB b y) := by
 unfold ya.f xB
 cases b with
 | true => rw [if_pos rfl, if_pos rfl, yQ]
 | false => rw [if_neg (by decide), if_neg (by decide)]
theorem vw {α : Type} (T : List Int → α → Option (List Int)) (B : α → ByteArray) (M : Nat) (l : List α) : ∀ acc : ByteArray, (∀ x ∈ l, (B x).size ≤ M) → (∀ x ∈ l, ∀ a : ByteArray, a.size + M < 140737488355328 → T (bytesOf a) x = some (bytesOf (a ++ B x))) → acc.size + M * l.length < 140737488355328 →
  xk T l (bytesOf acc) = some (bytesOf (acc ++ jH B l)) := by
 induction l with
 | nil => intro acc _ _ _; rw [jK, jd]; rfl
 | cons x l ih =>
  intro acc hM hT ha
  rw [List.length_cons, Nat.mul_succ] at ha
  have h1 := hM x List.mem_cons_self
  rw [xk, zD (hT x List.mem_cons_self acc (by omega)), ih (acc ++ B x) (fun y hy => hM y (List.mem_cons_of_mem _ hy)) (fun y hy => hT y (List.mem_cons_of_mem _ hy)) (by rw [zV]; omega), qo, yK]
theorem zcE (l : List S108) (i : Nat) (h : i < l.length) : yk l (i : Int) = l[i] := by simp [yk, h]
theorem zcG (l : List S77) (i : Nat) (h : i < l.length) : z8 l (i : Int) = l[i] := by simp [z8, h]
theorem zac (l : List S108) (hl : l.length ≤ 9223372036854775807) (M : Nat) (hz : ∀ x ∈ l, x.f1.length + 1 ≤ M ∧ x.f1.length ≤ 9223372036854775807) (d : Nat) : ∀ (k i : Nat), i + d = l.length → d + M + 1 ≤ k → zP.l0 k l l (l.length : Int) (i : Int) = some ((l.drop i).all evB && decide ((l.length : Int) ≤ 3)) := by
 induction d with
 | zero =>
  intro k i hi hk
  obtain ⟨k, rfl⟩ : ∃ k', k = k' + 1 := ⟨k - 1, by omega⟩
  rw [zP.l0, if_neg (by omega), List.drop_eq_nil_of_le (by omega)]
  rfl
 | succ d ih =>
  intro k i hi hk
  obtain ⟨k, rfl⟩ : ∃ k', k = k' + 1 := ⟨k - 1, by omega⟩
  have hs := ih k (i + 1) (by omega) (by omega)
  rw [zP.l0, if_pos (by omega), if_pos (by omega), if_pos (by omega), zcE l i (by omega), zD (XD _ _ (hz _ (List.getElem_mem _)).2 k (by have := (hz _ (List.getElem_mem (h := by omega) : l[i] ∈ l)).1; omega)), (List.drop_eq_getElem_cons (by omega) : l.drop i = l[i] :: l.drop (i + 1)), List.all_cons, z7 (by omega) (by omega)]
  show (if evB l[i] = true then _ else _) = _
  cases hb : evB l[i] with
  | true => rw [if_pos rfl, Bool.true_and]; exact hs
  | false => rw [if_neg (by decide), Bool.false_and, Bool.false_and]
theorem YO (l : List S108) (hl : l.length ≤ 9223372036854775807) (M : Nat) (hz : ∀ x ∈ l, x.f1.length + 1 ≤ M ∧ x.f1.length ≤ 9223372036854775807) (k : Nat) (hk : l.length + (M + 1) ≤ k) : zP.f k l = some (Zd l) := by
 unfold zP.f Zd
 exact zac l hl M hz l.length k 0 (by omega) hk
def XP (l : List ByteArray) : Bool := decide (l.length ≤ 8) && l.all qw
theorem zbw (l : List ByteArray) (hl : l.length ≤ 9223372036854775807) (d : Nat) : ∀ (k i : Nat), i + d = l.length → d + 301 ≤ k → ∃ r, z3.l0 k l (l.length : Int) (i : Int) = some r ∧ (r.2 == 0) = (l.drop i).all qw := by
 induction d with
 | zero =>
  intro k i hi hk
  obtain ⟨k, rfl⟩ : ∃ k', k = k' + 1 := ⟨k - 1, by omega⟩
  rw [z3.l0, if_neg (by omega), List.drop_eq_nil_of_le (by omega)]
  exact ⟨_, rfl, rfl⟩
 | succ d ih =>
  intro k i hi hk
  obtain ⟨k, rfl⟩ : ∃ k', k = k' + 1 := ⟨k - 1, by omega⟩
  have hs := ih k (i + 1) (by omega) (by omega)
  rw [z3.l0, if_pos (by omega), if_pos (by omega), if_pos (by omega), J2 l i (by omega), zD (Jj l[i] k (by omega)), (List.drop_eq_getElem_cons (by omega) : l.drop i = l[i] :: l.drop (i + 1)), List.all_cons, z7 (by omega) (by omega)]
  cases qw l[i] with
  | true => rw [if_pos rfl, Bool.true_and]; exact hs
  | false => rw [if_neg (by decide), Bool.false_and]; exact ⟨_, rfl, rfl⟩
theorem ZP (l : List ByteArray) (hl : l.length ≤ 9223372036854775807) (k : Nat) (hk : l.length + 301 ≤ k) : ∃ r, z3.f k l = some r ∧ (r.2 == 0) = XP l := by
 unfold z3.f XP
 by_cases h : l.length ≤ 8
 ·rw [if_neg (by omega), decide_eq_true h, Bool.true_and]
  exact zbw l hl l.length k 0 (by omega) (by omega)
 ·rw [if_pos (by omega), decide_eq_false h]
  exact ⟨_, rfl, rfl⟩
theorem zcj (n a b : Int) : wiB n a b = true ↔ a ≤ n ∧ n ≤ b := by
 unfold wiB
 exact decide_eq_true_iff
def evY (x : S108) : ByteArray := yp x.f0 ++ yx yp x.f1
def veY (x : S77) : ByteArray := yp x.f0 ++ yp x.f1
def itY (x : S86) : ByteArray := ((qW x.f0 ++ yp x.f1.f0) ++ yp x.f1.f1) ++ yx yp x.f1.f2
theorem za4 (c s : Int) (st : ByteArray) (r : Int) (l : List Int) (x : Int) (_hl : l.length < 9223372036854775807) (k : Nat) (_hk : l.length + 300 ≤ k) : xE.f k c s st r l x = some (qr c s st r l x) := rfl
theorem QD (l : List S77) (_hl : l.length < 9223372036854775807) (k : Nat) (_hk : l.length + 1 ≤ k) : xG.f k l = some (xu l) := rfl
theorem J6 (l : List S86) (k : Nat) : qn.f k l = some (qk l) := rfl
theorem vt {b : Bool} {y z : ByteArray} (h : b = true → y = z) : xB b y = xB b z := by
 cases b with
 | true => rw [h rfl]
 | false => rfl
theorem Xv {α : Type} {B C : α → ByteArray} (l : List α) (h : ∀ x ∈ l, B x = C x) : jH B l = jH C l := by
 induction l with
 | nil => rfl
 | cons x l ih => rw [qo, qo, h x List.mem_cons_self, ih (fun y hy => h y (List.mem_cons_of_mem _ hy))]
theorem zaj {α : Type} (T : α → ByteArray × Int) (l : List α) : ∀ acc, (qh T l acc).2 ≠ 0 → (qh T l acc).1 = ⟨#[]⟩ := by
 induction l with
 | nil => intro acc h; exact absurd rfl h
 | cons x l ih =>
  intro acc
  rw [qh]
  split
  ·exact ih _
  ·intro _; rfl
theorem zap (l : List ByteArray) : (qO l).1.size ≤ 10000000 := by
 by_cases h : (qO l).2 = 0
 ·exact Jz l h
 ·unfold qO at h ⊢
  split at h
  ·rw [if_pos ‹_›]; exact Nat.zero_le _
  ·rw [if_neg ‹_›, zaj _ _ _ h]; exact Nat.zero_le _
theorem Ji (l : List ByteArray) (hl : l.length ≤ 256) (h : ∀ x ∈ l, x.size ≤ 4096) : qO l = (yx qW l, 0) := by
 have h1 : ∀ x ∈ l, (qF x).2 = 0 := fun x hx => by rw [qQ x (h x hx)]
 unfold qO
 rw [if_neg (by omega), Z6 _ _ _ h1]
 unfold yx
 have : vm qF l = jH qW l := by
  clear hl
  induction l with
  | nil => rfl
  | cons x l ih => rw [vm, qQ x (h x List.mem_cons_self), ih (fun y hy => h y (List.mem_cons_of_mem _ hy)) (fun y hy => h1 y (List.mem_cons_of_mem _ hy))]; rfl
 rw [this]
theorem Yq {s : ByteArray} (h : xZ s = true) : s.size ≤ 32 := by
 unfold xZ at h
 rw [Bool.and_eq_true, decide_eq_true_eq] at h
 exact h.1
theorem J8 {s : ByteArray} (h : qw s = true) : s.size ≤ 32 := by
 unfold qw at h
 rw [Bool.and_eq_true, decide_eq_true_eq] at h
 exact h.1
theorem jS {n a b : Int} (h : wiB n a b = true) (ha : -9223372036854775808 ≤ a) (hb : b ≤ 9223372036854775807) : (Lit.int .i64 n).wf = true := by
 have := (zcj _ _ _).1 h
 exact Zk n (by omega) (by omega)
theorem zcK {l : List Int} {m : Int} (h : jy l m = true) : (∀ n ∈ l, (Lit.int .i64 n).wf = true) ∧ (l.length : Int) ≤ m := by
 unfold jy at h
 rw [Bool.and_eq_true, decide_eq_true_eq, List.all_eq_true] at h
 exact ⟨fun n hn => jS (h.1 n hn) (by decide) (by decide), h.2⟩
theorem zbX {c s : Int} {st : ByteArray} (h : ZI c s st = true) : (Lit.int .i64 c).wf = true ∧ (Lit.int .i64 s).wf = true ∧ st.size ≤ 32 := by
 unfold ZI at h
 rw [Bool.and_eq_true, Bool.and_eq_true] at h
 exact ⟨jS h.1 (by decide) (by decide), jS h.2.1 (by decide) (by decide), Yq h.2.2⟩
def j8 (l : List Int) : Prop := l.length ≤ 1048576 ∧ ∀ n ∈ l, (Lit.int .i64 n).wf = true
theorem Q5 {l : List Int} {m : Int} (h : jy l m = true) (hm : m ≤ 256) : j8 l ∧ l.length ≤ 256 := by
 have := zcK h
 exact ⟨⟨by omega, this.1⟩, by omega⟩
theorem zaw {c s : Int} {st : ByteArray} {r : Int} {l : List Int} {x : Int} (h : qr c s st r l x = true) : (Lit.int .i64 c).wf = true ∧ (Lit.int .i64 s).wf = true ∧ st.size ≤ 32 ∧ (Lit.int .i64 r).wf = true ∧ j8 l ∧ l.length ≤ 256 ∧ (Lit.int .i64 x).wf = true := by
 unfold qr at h
 rw [Bool.and_eq_true, Bool.and_eq_true, Bool.and_eq_true] at h
 have h1 := zbX h.1
 have h2 := Q5 h.2.2.1 (by decide)
 exact ⟨h1.1, h1.2.1, h1.2.2, jS h.2.1 (by decide) (by decide), h2.1, h2.2, jS h.2.2.2 (by decide) (by decide)⟩
def Ze (x : S108) : Prop := (Lit.int .i64 x.f0).wf = true ∧ j8 x.f1
theorem ev_wf {x : S108} (h : evB x = true) : Ze x ∧ x.f1.length ≤ 256 := by
 unfold evB at h
 rw [Bool.and_eq_true] at h
 have h2 := Q5 h.2 (by decide)
 exact ⟨⟨jS h.1 (by decide) (by decide), h2.1⟩, h2.2⟩
theorem zaF {l : List S108} (h : Zd l = true) : l.length ≤ 3 ∧ ∀ x ∈ l, Ze x ∧ x.f1.length ≤ 256 := by
 unfold Zd at h
 rw [Bool.and_eq_true, decide_eq_true_eq, List.all_eq_true] at h
 exact ⟨by omega, fun x hx => ev_wf (h.1 x hx)⟩
theorem Qn {α : Type} {P : α → Bool} {R : α → α → Bool} (l : List α) : ∀ o, xx P R o l = true → ∀ x ∈ l, P x = true := by
 induction l with
 | nil => intro o _ x hx; cases hx
 | cons y l ih =>
  intro o h x hx
  have h2 : P y = true ∧ xx P R (some y) l = true := by
   cases o with
   | none => rw [xx, Bool.and_eq_true] at h; exact h
   | some p => rw [xx, Bool.and_eq_true, Bool.and_eq_true] at h; exact ⟨h.1, h.2.2⟩
  rcases List.mem_cons.1 hx with rfl | hx
  ·exact h2.1
  ·exact ih _ h2.2 x hx
def ZD (x : S86) : Prop := x.f0.size ≤ 140737488351232 ∧ (Lit.int .i64 x.f1.f0).wf = true ∧ (Lit.int .i64 x.f1.f1).wf = true ∧ j8 x.f1.f2
theorem it_wf {x : S86} (h : itB x = true) : ZD x ∧ x.f0.size ≤ 32 ∧ x.f1.f2.length ≤ 256 := by
 unfold itB staB at h
 rw [Bool.and_eq_true, Bool.and_eq_true, Bool.and_eq_true] at h
 have h1 := Yq h.1
 have h2 := Q5 h.2.2.1 (by decide)
 exact ⟨⟨by omega, jS h.2.1 (by decide) (by decide), jS h.2.2.2 (by decide) (by decide), h2.1⟩, h1, h2.2⟩
theorem Y7 {l : List S86} (h : qk l = true) : l.length ≤ 64 ∧ ∀ x ∈ l, ZD x ∧ x.f0.size ≤ 32 ∧ x.f1.f2.length ≤ 256 := by
 unfold qk at h
 rw [Bool.and_eq_true, decide_eq_true_eq] at h
 exact ⟨by omega, fun x hx => it_wf (Qn l none h.1 x hx)⟩
def Xd (x : S77) : Prop := (Lit.int .i64 x.f0).wf = true ∧ (Lit.int .i64 x.f1).wf = true
theorem Y0 {l : List S77} (h : xu l = true) : l.length ≤ 32 ∧ ∀ x ∈ l, Xd x := by
 unfold xu at h
 rw [Bool.and_eq_true, decide_eq_true_eq] at h
 refine ⟨by omega, fun x hx => ?_⟩
 have h2 := Qn l none h.1 x hx
 unfold XY at h2
 rw [Bool.and_eq_true] at h2
 exact ⟨jS h2.1 (by decide) (by decide), jS h2.2 (by decide) (by decide)⟩
theorem Q6 {l : List ByteArray} (h : XP l = true) : l.length ≤ 8 ∧ ∀ x ∈ l, x.size ≤ 32 := by
 unfold XP at h
 rw [Bool.and_eq_true, decide_eq_true_eq, List.all_eq_true] at h
 exact ⟨h.1, fun x hx => J8 (h.2 x hx)⟩
def XW (c s : Int) (st : ByteArray) (r : Int) (l : List Int) (x : Int) : ByteArray := ((((yp c ++ yp s) ++ qW st) ++ yp r) ++ yx yp l) ++ yp x
theorem JG (c s : Int) (st : ByteArray) (r : Int) (l : List Int) (x : Int) (h1 : (Lit.int .i64 c).wf = true) (h2 : (Lit.int .i64 s).wf = true) (h3 : st.size ≤ 140737488351232) (h4 : (Lit.int .i64 r).wf = true) (h5 : j8 l) (h6 : (Lit.int .i64 x).wf = true) (k : Nat) (hk : 3000000 ≤ k) :
  yu.f k c s st r l x = some (xB (qr c s st r l x) (XW c s st r l x)) := by
 have b1 := zL c
 have b2 := zL s
 have b3 := qE st
 have b4 := zL r
 have b5 := jV l
 have e1 := ZO c s h1 h2 ⟨#[]⟩ (by decide) k (by omega)
 rw [jP, Zj] at e1
 unfold yu.f
 rw [zD e1, zD (Zu st h3 _ (by simp only [zV]; omega)), zD (qL r h4 _ (by simp only [zV]; omega) k (by omega)), zD (qM l h5.2 _ (by simp only [zV]; omega)), zD (za4 c s st r l x (by have := h5.1; omega) k (by have := h5.1; omega)), zD (qL x h6 _ (by simp only [zV]; omega) k (by omega)), zD (vk _ _)]
 refine congrArg some (vt fun hb => ?_)
 obtain ⟨_, _, g3, _, _, g6, _⟩ := zaw hb
 rw [qQ st (by omega), jB l g6]
 rfl
def evZ (x : S108) : ByteArray := yp x.f0 ++ (xn x.f1).1
theorem zbf (x : S108) : (evZ x).size ≤ 10000010 := by
 have h1 := zL x.f0
 have h2 := jV x.f1
 unfold evZ
 rw [zV]
 omega
theorem QB (x : S108) (h : Ze x) (a : ByteArray) (ha : a.size + 10000030 < 140737488355328) (k : Nat) (hk : 3 ≤ k) : z1.f k (bytesOf a) x.f0 x.f1 = some (bytesOf (a ++ evZ x)) := by
 have h1 := zL x.f0
 unfold z1.f
 rw [zD (qL x.f0 h.1 a (by omega) k hk), zD (qM x.f1 h.2.2 _ (by rw [zV]; omega)), yK]
 rfl
theorem XQ (l : List S108) (hl : l.length ≤ 1048576) (h : ∀ x ∈ l, Ze x) (a : ByteArray) (ha : a.size ≤ 100000000) (k : Nat) (hk : 3000000 ≤ k) : zJ.f k (bytesOf a) l = some (bytesOf (a ++ yx evZ l)) := by
 have h1 := zL (l.length : Int)
 unfold zJ.f
 rw [zD (qL (l.length : Int) (Zk _ (by omega) (by omega)) a (by omega) k (by omega)), vw _ evZ 10000030 l _ (fun x _ => Nat.le_trans (zbf x) (by decide)) (fun x hx b hb => QB x (h x hx) b hb k (by omega)) (by rw [zV]; omega), yK]
 rfl
theorem zaN (l : List S108) (h : Zd l = true) : yx evZ l = yx evY l := by
 unfold yx
 rw [Xv l (fun x hx => ?_)]
 unfold evZ evY
 rw [jB x.f1 ((zaF h).2 x hx).2]
theorem evsz {l : List S108} (h : ∀ x ∈ l, Ze x) : ∀ x ∈ l, x.f1.length + 1 ≤ 1048577 ∧ x.f1.length ≤ 9223372036854775807 := fun x hx => by
 have := (h x hx).2.1
 omega
theorem Zt (l : List S108) (hl : l.length ≤ 1048576) (h : ∀ x ∈ l, Ze x) (k : Nat) (hk : 3000000 ≤ k) : yi.f k l = some (xB (Zd l) (yx evY l)) := by
 have e1 := XQ l hl h ⟨#[]⟩ (by decide) k hk
 rw [jP, Zj] at e1
 unfold yi.f
 rw [zD (YO l (by omega) 1048577 (evsz h) k (by omega)), zD e1, zD (vk _ _)]
 exact congrArg some (vt fun hb => zaN l hb)
def itZ (x : S86) : ByteArray := (qF x.f0).1 ++ ((yp x.f1.f0 ++ yp x.f1.f1) ++ (xn x.f1.f2).1)
theorem zbF (x : S86) : (itZ x).size ≤ 10004126 := by
 have h1 := qE x.f0
 have h2 := zL x.f1.f0
 have h3 := zL x.f1.f1
 have h4 := jV x.f1.f2
 unfold itZ
 rw [zV, zV, zV]
 omega
theorem Q2 (x : S86) (h : ZD x) (a : ByteArray) (ha : a.size + 10008126 < 140737488355328) (k : Nat) (hk : 3 ≤ k) : z5.f k (bytesOf a) x.f0 x.f1.f0 x.f1.f1 x.f1.f2 = some (bytesOf (a ++ itZ x)) := by
 have h1 := qE x.f0
 have h2 := zL x.f1.f0
 have h3 := zL x.f1.f1
 unfold z5.f
 rw [zD (Zu x.f0 h.1 a (by omega)), zD (ZO x.f1.f0 x.f1.f1 h.2.1 h.2.2.1 _ (by rw [zV]; omega) k hk), zD (qM x.f1.f2 h.2.2.2.2 _ (by rw [zV, zV, zV]; omega)), yK, yK]
 rfl
theorem Qw (l : List S86) (hl : l.length ≤ 1048576) (h : ∀ x ∈ l, ZD x) (a : ByteArray) (ha : a.size ≤ 100000000) (k : Nat) (hk : 3000000 ≤ k) : z2.f k (bytesOf a) l = some (bytesOf (a ++ yx itZ l)) := by
 have h1 := zL (l.length : Int)
 unfold z2.f
 rw [zD (qL (l.length : Int) (Zk _ (by omega) (by omega)) a (by omega) k (by omega)), vw _ itZ 10008126 l _ (fun x _ => Nat.le_trans (zbF x) (by decide)) (fun x hx b hb => Q2 x (h x hx) b hb k (by omega)) (by rw [zV]; omega), yK]
 rfl
theorem zaL (l : List S86) (h : qk l = true) : yx itZ l = yx itY l := by
 unfold yx
 rw [Xv l (fun x hx => ?_)]
 obtain ⟨_, h1, h2⟩ := (Y7 h).2 x hx
 unfold itZ itY
 rw [jB x.f1.f2 h2, qQ x.f0 (by omega), yK, yK, yK]
theorem Z1 (l : List S86) (hl : l.length ≤ 524288) (hs : ∀ x ∈ l, x.f0.size ≤ 1048576) (h : ∀ x ∈ l, ZD x) (k : Nat) (hk : 3000000 ≤ k) : yL.f k l = some (xB (qk l) (yx itY l)) := by
 have e1 := Qw l (by omega) h ⟨#[]⟩ (by decide) k hk
 rw [jP, Zj] at e1
 unfold yL.f
 rw [zD (J6 l k), zD e1, zD (vk _ _)]
 exact congrArg some (vt fun hb => zaL l hb)
theorem Y3 (x : S77) : (veY x).size ≤ 20 := by
 have h2 := zL x.f0
 have h3 := zL x.f1
 unfold veY
 rw [zV]
 omega
theorem X0 (l : List S77) (hl : l.length ≤ 1048576) (h : ∀ x ∈ l, Xd x) (d : Nat) : ∀ (k i : Nat) (acc : ByteArray), i + d = l.length → d + 10 ≤ k → acc.size ≤ 100000000 + 20 * i →
  zw.l0 k (bytesOf acc) l (l.length : Int) (i : Int) = some (bytesOf (acc ++ jH veY (l.drop i))) := by
 induction d with
 | zero =>
  intro k i acc hi hk ha
  obtain ⟨k, rfl⟩ : ∃ m, k = m + 1 := ⟨k - 1, by omega⟩
  rw [zw.l0, if_neg (by omega), List.drop_of_length_le (by omega), jK, jd]
 | succ d ih =>
  intro k i acc hi hk ha
  obtain ⟨k, rfl⟩ : ∃ m, k = m + 1 := ⟨k - 1, by omega⟩
  have hlt : i < l.length := by omega
  have hx := h _ (List.getElem_mem hlt)
  have hz := Y3 l[i]
  have e : yU.f k (bytesOf acc) l[i].f0 l[i].f1 = some (bytesOf (acc ++ veY l[i])) := by
   unfold yU.f
   rw [zD (ZO _ _ hx.1 hx.2 acc (by omega) k (by omega))]
   rfl
  rw [zw.l0, if_pos (by omega), if_pos (by omega), if_pos (by omega), zcG l i hlt, zD e, z7 (by omega) (by omega), List.drop_eq_getElem_cons hlt, qo, ← yK]
  exact ih k (i + 1) (acc ++ veY l[i]) (by omega) (by omega) (by rw [zV]; omega)
theorem vI (l : List S77) (hl : l.length ≤ 1048576) (h : ∀ x ∈ l, Xd x) (k : Nat) (hk : 3000000 ≤ k) : yo.f k l = some (xB (xu l) (yx veY l)) := by
 have h1 := zL (l.length : Int)
 have e1 := qL (l.length : Int) (Zk _ (by omega) (by omega)) ⟨#[]⟩ (by decide) k (by omega)
 rw [jP, Zj] at e1
 have e2 := X0 l hl h l.length k 0 (yp (l.length : Int)) (by omega) (by omega) (by omega)
 rw [List.drop_zero] at e2
 have e3 : zw.f k ([] : List Int) l = some (bytesOf (yx veY l)) := by
  unfold zw.f
  rw [zD e1]
  exact e2
 unfold yo.f
 rw [zD (QD l (by omega) k (by omega)), zD e3, zD (vk _ _)]
theorem X3 (l : List ByteArray) (hl : l.length ≤ 1048576) (h : ∀ x ∈ l, x.size ≤ 140737488351232) (k : Nat) (hk : 3000000 ≤ k) : yT.f k l = some (xB (XP l) (yx qW l)) := by
 obtain ⟨r, e1, e2⟩ := ZP l (by omega) k (by omega)
 have h1 := zap l
 unfold yT.f
 rw [zD e1, zD (Vi l h), if_pos (by omega), e2, vk]
 refine congrArg some (vt fun hb => ?_)
 obtain ⟨g1, g2⟩ := Q6 hb
 rw [Ji l (by omega) (fun x hx => by have := g2 x hx; omega)]
end Go.Proofs.YtepipnpfggnadaaGreat.Q
namespace Go.Proofs.YtepipnpfggnadaaGreat.Crc
def sN (r : Nat) : Nat := if r % 2 = 1 then (r / 2) ^^^ 2197175160 else r / 2
def sK : Nat → Nat → Nat
 | 0, r => r
 | k + 1, r => sK k (sN r)
def sB (r : Nat) : Nat := sK 8 r
def thN (r : Nat) (l : List Nat) : Nat := l.foldl (fun r c => sB (r ^^^ c)) r
theorem JL (r : Nat) : thN r [] = r := rfl
theorem Y8 (r c : Nat) (l : List Nat) : thN r (c :: l) = thN (sB (r ^^^ c)) l := List.foldl_cons ..
def val : List Nat → Nat
 | [] => 0
 | c :: l => c + 256 * val l
theorem zbx (a b : Nat) : (a ^^^ b) / 2 = a / 2 ^^^ b / 2 := by
 have := Nat.shiftRight_xor_distrib (a := a) (b := b) (i := 1)
 simpa [Nat.shiftRight_eq_div_pow] using this
theorem za5 (a b : Nat) : (a ^^^ b) % 2 = (a + b) % 2 := by
 have h : (a ^^^ b) % 2 ^ 1 = (a % 2 ^ 1) ^^^ (b % 2 ^ 1) := Nat.xor_mod_two_pow
 simp only [Nat.pow_one] at h
 rcases Nat.mod_two_eq_zero_or_one a with ha | ha <;> rcases Nat.mod_two_eq_zero_or_one b with hb | hb <;> rw [h, ha, hb] <;> simp <;> omega
theorem zcR (a b : Nat) : sN (a ^^^ b) = sN a ^^^ sN b := by
 unfold sN
 rw [zbx, za5]
 rcases Nat.mod_two_eq_zero_or_one a with ha | ha <;> rcases Nat.mod_two_eq_zero_or_one b with hb | hb
 ·rw [if_neg (by omega), if_neg (by omega), if_neg (by omega)]
 ·rw [if_pos (by omega), if_neg (by omega), if_pos hb, Nat.xor_assoc]
 ·rw [if_pos (by omega), if_pos ha, if_neg (by omega), Nat.xor_assoc, Nat.xor_assoc, Nat.xor_comm (b / 2)]
 ·rw [if_neg (by omega), if_pos ha, if_pos hb]
  rw [Nat.xor_assoc, ← Nat.xor_assoc 2197175160, Nat.xor_comm 2197175160 (b / 2), Nat.xor_assoc (b / 2), Nat.xor_self, Nat.xor_zero]
theorem zaf (k : Nat) : ∀ a b, sK k (a ^^^ b) = sK k a ^^^ sK k b := by
 induction k with
 | zero => intro a b; rfl
 | succ k ih => intro a b; simp only [sK]; rw [zcR, ih]
theorem VY (m : Nat) : ∀ n r, sK (m + n) r = sK n (sK m r) := by
 induction m with
 | zero => intro n r; simp [sK]
 | succ m ih => intro n r; rw [Nat.succ_add]; simp only [sK]; exact ih n (sN r)
theorem VB (r : Nat) (h : r < 4294967296) : sN r < 4294967296 := by
 unfold sN
 split
 ·exact Nat.xor_lt_two_pow (n := 32) (by omega) (by omega)
 ·omega
theorem zbK (k : Nat) : ∀ r, r < 4294967296 → sK k r < 4294967296 := by
 induction k with
 | zero => intro r h; exact h
 | succ k ih => intro r h; exact ih _ (VB r h)
theorem sN_ne (r : Nat) (h : r < 4294967296) (h0 : r ≠ 0) : sN r ≠ 0 := by
 unfold sN
 split
 ·intro he
  have h2 : (r / 2 ^^^ 2197175160) ^^^ 2197175160 = 2197175160 := by rw [he, Nat.zero_xor]
  rw [Nat.xor_assoc, Nat.xor_self, Nat.xor_zero] at h2
  omega
 ·omega
theorem sK_ne (k : Nat) : ∀ r, r < 4294967296 → r ≠ 0 → sK k r ≠ 0 := by
 induction k with
 | zero => intro r _ h; exact h
 | succ k ih => intro r h h0; exact ih _ (VB r h) (sN_ne r h h0)
theorem VV (r : Nat) : sN (2 * r) = r := by
 unfold sN
 rw [if_neg (by omega)]
 omega
theorem Xe (k : Nat) : ∀ r, sK k (2 ^ k * r) = r := by
 induction k with
 | zero => intro r; simp [sK]
 | succ k ih =>
  intro r
  simp only [sK]
  rw [Nat.pow_succ, Nat.mul_comm (2 ^ k) 2, Nat.mul_assoc, VV, ih]
theorem JT (c m : Nat) (hc : c < 256) : c + 256 * m = c ^^^ 256 * m := by
 have h1 : 256 * m + c = 256 * m ||| c := Nat.two_pow_add_eq_or_of_lt (i := 8) hc m
 have h2 : 256 * m ||| c = 256 * m ^^^ c := by
  apply Nat.eq_of_testBit_eq
  intro i
  rw [Nat.testBit_or, Nat.testBit_xor]
  by_cases hi : i < 8
  ·have : (256 * m).testBit i = false := by
    have : 256 * m = 2 ^ 8 * m := rfl
    rw [this, Nat.testBit_two_pow_mul]
    simp; omega
   rw [this]; simp
  ·have : c.testBit i = false := Nat.testBit_lt_two_pow (Nat.lt_of_lt_of_le hc (Nat.pow_le_pow_right (n := 2) (i := 8) (j := i) (by decide) (by omega)))
   rw [this]; simp
 rw [Nat.add_comm, h1, h2, Nat.xor_comm]
theorem J3 (k a m : Nat) : sK k (a ^^^ 2 ^ k * m) = sK k a ^^^ m := by rw [zaf, Xe]
theorem zca (a m : Nat) : sK 8 (a ^^^ 256 * m) = sB a ^^^ m := by
 have h := J3 8 a m
 rwa [show (2 : Nat) ^ 8 = 256 from rfl] at h
theorem zcl (l : List Nat) : ∀ r, (∀ c ∈ l, c < 256) → thN r l = sK (8 * l.length) (r ^^^ val l) := by
 induction l with
 | nil => intro r _; rw [JL]; simp [val, sK]
 | cons c l ih =>
  intro r h
  have hc : c < 256 := h c List.mem_cons_self
  have hl : ∀ x ∈ l, x < 256 := fun x hx => h x (List.mem_cons_of_mem _ hx)
  have e1 : val (c :: l) = c ^^^ 256 * val l := by rw [val, JT c (val l) hc]
  have e2 : 8 * (c :: l).length = 8 + 8 * l.length := by rw [List.length_cons]; omega
  have e3 : thN r (c :: l) = thN (sB (r ^^^ c)) l := Y8 r c l
  rw [e1, e2, e3, ih _ hl, VY, ← Nat.xor_assoc]
  rw [zca (r ^^^ c) (val l)]
theorem zae (l : List Nat) : ∀ r, r < 4294967296 → (∀ c ∈ l, c < 256) → thN r l < 4294967296 := by
 induction l with
 | nil => intro r h _; exact h
 | cons c l ih =>
  intro r h hl
  rw [Y8]
  refine ih _ (zbK 8 _ (Nat.xor_lt_two_pow (n := 32) h (Nat.lt_trans (hl c List.mem_cons_self) (by omega)))) (fun x hx => hl x (List.mem_cons_of_mem _ hx))
def F : Nat := 4294967295
def vo (l : List Nat) : Nat := thN F l ^^^ F
theorem zbD (a b c d : Nat) : (a ^^^ b) ^^^ (c ^^^ d) = (a ^^^ c) ^^^ (b ^^^ d) := by
 rw [Nat.xor_assoc, ← Nat.xor_assoc b c d, Nat.xor_comm b c, Nat.xor_assoc c b d, ← Nat.xor_assoc]
end Go.Proofs.YtepipnpfggnadaaGreat.Crc
namespace Go.Proofs.YtepipnpfggnadaaGreat.Q
open Go.RowKit Go.Proofs.YtepipnpfggnadaaGreatW.PrintWords Go.Proofs.YtepipnpfggnadaaGreatW.PrintLast Go.Proofs.YtepipnpfggnadaaGreatW.PrintMore Go.Proofs.YtepipnpfggnadaaGreat.Crc
theorem Vl (d : Nat) : ∀ (k : Nat) (i : Int) (r : Nat), r < 4294967296 → 0 ≤ i → i + d = 8 → d < k → yd.l0 k (r : Int) i = some ((sK d r : Nat) : Int) := by
 induction d with
 | zero =>
  intro k i r hr h0 hi hk
  obtain ⟨k, rfl⟩ : ∃ m, k = m + 1 := ⟨k - 1, by omega⟩
  simp only [yd.l0]
  rw [if_neg (by omega)]
  rfl
 | succ d ih =>
  intro k i r hr h0 hi hk
  obtain ⟨k, rfl⟩ : ∃ m, k = m + 1 := ⟨k - 1, by omega⟩
  simp only [yd.l0]
  rw [if_pos (by omega), Jy r hr, z7 h0 (by omega)]
  have hn := ih k (i + 1) (sN r) (VB r hr) (by omega) (by omega) (by omega)
  unfold sN at hn
  by_cases h1 : r % 2 = 1
  ·rw [if_pos (by omega)]
   rw [if_pos h1] at hn
   have e : (r : Int) / 2 = ((r / 2 : Nat) : Int) := by omega
   have e2 : (2197175160 : Int) = ((2197175160 : Nat) : Int) := rfl
   rw [e, e2, XS _ _ (by omega) (by omega)]
   rw [hn]
   simp only [sK, sN, if_pos h1]
  ·rw [if_neg (by omega)]
   rw [if_neg h1] at hn
   have e : (r : Int) / 2 = ((r / 2 : Nat) : Int) := by omega
   rw [e, hn]
   simp only [sK, sN, if_neg h1]
theorem JA (k : Nat) (hk : 8 < k) (r c : Nat) (hr : r < 4294967296) (hc : c < 256) : yd.f k (r : Int) (c : Int) = some ((sB (r ^^^ c) : Nat) : Int) := by
 unfold yd.f
 have e : (c : Int) % 4294967296 = (c : Int) := by omega
 rw [e, XS _ _ hr (by omega)]
 exact Vl 8 k 0 _ (Nat.xor_lt_two_pow (n := 32) hr (by omega)) (by omega) (by omega) hk
theorem zcb (s : ByteArray) (hs : s.size ≤ 140737488351232) (d : Nat) : ∀ (k : Nat) (i r : Nat), r < 4294967296 → i + d = s.size → d + 9 < k → yn.l0 k s (r : Int) (s.size : Int) (i : Int) = some (Go.bits .xor .u32 4294967295 ((thN r ((bl s).drop i) : Nat) : Int)) := by
 induction d with
 | zero =>
  intro k i r hr hi hk
  obtain ⟨k, rfl⟩ : ∃ m, k = m + 1 := ⟨k - 1, by omega⟩
  simp only [yn.l0]
  rw [if_neg (by omega), List.drop_of_length_le (by rw [z9]; omega), JL]
 | succ d ih =>
  intro k i r hr hi hk
  obtain ⟨k, rfl⟩ : ∃ m, k = m + 1 := ⟨k - 1, by omega⟩
  have hlt : i < s.size := by omega
  have hli : i < (bl s).length := by rw [z9]; exact hlt
  have hc := QT s i hli
  simp only [yn.l0]
  rw [if_pos (by omega), if_pos (by omega), if_pos (by omega), XC s i hlt, JA k (by omega) r _ hr hc]
  simp only [Option.bind_some]
  rw [z7 (by omega) (by omega), YH s i hlt, Y8]
  exact ih k (i + 1) _ (zbK 8 _ (Nat.xor_lt_two_pow (n := 32) hr (by omega))) (by omega) (by omega)
theorem xorF (r : Nat) (hr : r < 4294967296) : Go.bits .xor .u32 4294967295 (r : Int) = ((F ^^^ r : Nat) : Int) := XS 4294967295 r (by omega) hr
theorem F_lt : F < 4294967296 := by decide
theorem JS (r : Nat) (hr : r < 4294967296) : F ^^^ r < 4294967296 := Nat.xor_lt_two_pow (n := 32) F_lt hr
def Vu (r : Nat) (l : List Nat) : Nat := thN (F ^^^ r) l ^^^ F
theorem YE (l : List Nat) (hl : ∀ c ∈ l, c < 256) : vo l < 4294967296 := Nat.xor_lt_two_pow (n := 32) (zae l _ F_lt hl) F_lt
theorem Vg (l : List Nat) : Vu 0 l = vo l := by unfold Vu vo; rw [Nat.xor_zero]
theorem za1 (s : ByteArray) (hs : s.size ≤ 140737488351232) (k : Nat) (hk : s.size + 9 < k) (r : Nat) (hr : r < 4294967296) : yn.f k (r : Int) s = some ((Vu r (bl s) : Nat) : Int) := by
 unfold yn.f
 rw [xorF r hr]
 have h := zcb s hs s.size k 0 (F ^^^ r) (JS r hr) (by omega) hk
 rw [List.drop_zero, xorF _ (zae _ _ (JS r hr) (jk s)), Nat.xor_comm F (thN (F ^^^ r) (bl s))] at h
 exact h
theorem J1 (s : ByteArray) (hs : s.size ≤ 140737488351232) (k : Nat) (hk : s.size + 9 < k) : xj.f k s = some ((vo (bl s) : Nat) : Int) := by
 unfold xj.f
 have h := za1 s hs k hk 0 (by omega)
 rw [Vg] at h
 exact (congrArg (fun o => o.bind fun t => some t) h)
open Go.RowKit Go.Proofs.YtepipnpfggnadaaGreatW.PrintWords Go.Proofs.YtepipnpfggnadaaGreatW.PrintLast Go.Proofs.YtepipnpfggnadaaGreatW.PrintMore
attribute [local go_sem] ja q8 jE jL qs qz q7 qZ
def yt.f (k : Nat) (a0 : ByteArray) : Option (ByteArray × Int) := if (wrap64 ((a0.size : Int) - 4)) < 0 then (some ((⟨#[]⟩ : ByteArray), 5)) else (if 0 ≤ (wrap64 ((a0.size : Int) - 4)) then (if (wrap64 ((a0.size : Int) - 4)) ≤ (a0.size : Int) then ((xj.f k (a0.extract 0 ((wrap64 ((a0.size : Int) - 4)) : Int).toNat)).bind fun t436 => ((yD.f t436).bind fun t437 => (if t437.toList = (a0.extract ((wrap64 ((a0.size : Int) - 4)) : Int).toNat a0.size).toList then (some (a0.extract 0 ((wrap64 ((a0.size : Int) - 4)) : Int).toNat, 0)) else (some ((⟨#[]⟩ : ByteArray), 7))))) else (none)) else (none))
def yt.T4 : Bool × List (List Nat × List Nat) := (true, [([], []), ([], []), ([0, 1], [0, 1]), ([2], [2]), ([3, 3], [3]), ([], []), ([], []), ([5, 6], [5, 6]), ([4, 7], [4, 7]), ([8, 4], [8])])
def yt.B4 : List Nat := [0, 0, 3, 7, 15, 0, 0, 96, 255, 511]
theorem yt.tab4 : xA .any (VC Tryz.f36 4) = yt.T4 := by kernel_rfl
theorem yt.bits4 : jD yt.T4.2 yt.B4 = true := by kernel_rfl
theorem yt.calls (k : Nat) (a0 : ByteArray) (r1 : ByteArray) (r2 : Int) (w : World) (h : yt.f k a0 = some (r1, r2)) :
  Calls Tryz.prog 36 #[.string a0] w fun e w' => e = .returned (.tuple #[.string r1, .int .i64 r2]) ∧ Below w.heap.size w w' := by
 have HB := za.mk (Below.refl w.heap.size w)
 have H : (if (wrap64 ((a0.size : Int) - 4)) < 0 then (some ((⟨#[]⟩ : ByteArray), 5)) else (if 0 ≤ (wrap64 ((a0.size : Int) - 4)) then (if (wrap64 ((a0.size : Int) - 4)) ≤ (a0.size : Int) then ((xj.f k (a0.extract 0 ((wrap64 ((a0.size : Int) - 4)) : Int).toNat)).bind fun t436 => ((yD.f t436).bind fun t437 => (if t437.toList = (a0.extract ((wrap64 ((a0.size : Int) - 4)) : Int).toNat a0.size).toList then (some (a0.extract 0 ((wrap64 ((a0.size : Int) - 4)) : Int).toNat, 0)) else (some ((⟨#[]⟩ : ByteArray), 7))))) else (none)) else (none))) = some (r1, r2) := h
 clear h
 by_cases c2 : (wrap64 ((a0.size : Int) - 4)) < 0
 ·rw [if_pos c2] at H
  have c2b0 : decide ((wrap64 ((a0.size : Int) - 4)) < 0) = true := decide_eq_true c2
  clear c2
  simp only [Option.some.injEq, Prod.mk.injEq] at H
  obtain ⟨rfl, rfl⟩ := H
  go_enter Tryz.func36, Tryz.ntmps36
  go_wp2
  go_ret2
  exact ⟨by first | rfl | (simp [zn, zo] <;> rfl) | (simp [*, zn, zo] <;> rfl), by repeat (first | (with_reducible first | exact HB.out | apply zc | apply zb | apply zd) | exact HB.out)⟩
 ·rw [if_neg c2] at H
  have c2b0 : decide ((wrap64 ((a0.size : Int) - 4)) < 0) = false := decide_eq_false c2
  clear c2
  obtain ⟨ji3, hji3⟩ : ∃ j_ : Int, (wrap64 ((a0.size : Int) - 4)) = j_ := ⟨_, rfl⟩
  replace H : (if 0 ≤ (ji3) then (if (ji3) ≤ (a0.size : Int) then ((xj.f k (a0.extract 0 ((ji3) : Int).toNat)).bind fun t436 => ((yD.f t436).bind fun t437 => (if t437.toList = (a0.extract ((ji3) : Int).toNat a0.size).toList then (some (a0.extract 0 ((ji3) : Int).toNat, 0)) else (some ((⟨#[]⟩ : ByteArray), 7))))) else (none)) else (none)) = some (r1, r2) := by first | (rw [hji3] at H; exact H) | (simp only [hji3] at H ⊢; exact H)
  (try rw [hji3] at c2b0)
  have hji3w : (IntKind.i64.wrap ((a0.size : Int) - 4)) = ji3 := (zY _).trans hji3
  by_cases c4 : 0 ≤ (ji3)
  ·rw [if_pos c4] at H
   have c4b0 := eq_true c4
   have c4b1 : decide (0 ≤ (ji3)) = true := decide_eq_true c4
   clear c4
   by_cases c5 : (ji3) ≤ (a0.size : Int)
   ·rw [if_pos c5] at H
    have c5b0 := eq_true c5
    have c5b1 : decide ((ji3) ≤ (a0.size : Int)) = true := decide_eq_true c5
    clear c5
    replace H := zcX.mp H
    obtain ⟨t436, A60, H⟩ := H
    replace H : ((yD.f t436).bind fun t437 => (if t437.toList = (a0.extract ((ji3) : Int).toNat a0.size).toList then (some (a0.extract 0 ((ji3) : Int).toNat, 0)) else (some ((⟨#[]⟩ : ByteArray), 7)))) = some (r1, r2) := H
    have A6 := za.mk A60
    clear A60
    replace H := zcX.mp H
    obtain ⟨t437, A70, H⟩ := H
    replace H : (if t437.toList = (a0.extract ((ji3) : Int).toNat a0.size).toList then (some (a0.extract 0 ((ji3) : Int).toNat, 0)) else (some ((⟨#[]⟩ : ByteArray), 7))) = some (r1, r2) := H
    have A7 := za.mk A70
    clear A70
    have c8b0 := eq_true (of_decide_eq_true (by first | (with_reducible assumption) | assumption) : 0 ≤ (ji3))
    have c9b0 := eq_true (of_decide_eq_true (by first | (with_reducible assumption) | assumption) : (ji3) ≤ (a0.size : Int))
    by_cases c10 : t437.toList = (a0.extract ((ji3) : Int).toNat a0.size).toList
    ·rw [if_pos c10] at H
     have c10b0 : (t437.toList == (a0.extract ((ji3) : Int).toNat a0.size).toList) = true := beq_iff_eq.mpr c10
     have c10b1 : (t437.toList != (a0.extract ((ji3) : Int).toNat a0.size).toList) = false := bne_eq_false_iff_eq.mpr c10
     clear c10
     have c11b0 := eq_true (of_decide_eq_true (by first | (with_reducible assumption) | assumption) : 0 ≤ (ji3))
     have c12b0 := eq_true (of_decide_eq_true (by first | (with_reducible assumption) | assumption) : (ji3) ≤ (a0.size : Int))
     simp only [Option.some.injEq, Prod.mk.injEq] at H
     obtain ⟨rfl, rfl⟩ := H
     go_enter Tryz.func36, Tryz.ntmps36
     try go_wp2
     refine Ys (n := 10) (S := fun w' => True) (ds := []) #[Y,Y,Y,Y,Y,Y,Y,Y,Y,Y] (by kernel_rfl) rfl rfl trivial (fun hHeld => ?_); refine vY yt.tab4 yt.bits4 (fun HT_ HW_ => ?_)
     first | (generalize hdrew_ : (World.drewN w nd).drew = w13 at hHeld ⊢; have n0_ : za (Below _ _ w13) := za.mk (by rw [← hdrew_]; exact zd (zb HB.out nd)); clear hdrew_; clear HB; have HB := n0_; clear n0_) | (have n0_ := za.mk (zd HB.out); clear HB; have HB := n0_; clear n0_; generalize w.drew = w13 at HB hHeld ⊢)
     refine yF (i := 0) (N := some 12) (v := ?_) (a' := ?_) #[O,Y,Y,Y,Y,Y,Y,Y,Y,Y] rfl rfl (yr HT_.out (by kernel_rfl)) (fun _ _ _ h => h) (Or.inl ⟨by rfl, ?_⟩) ?_ ?_
     rotate_left
     ·intro w'
      go_simp
      with_reducible rfl
     rotate_left
     ·simp only [Act.put, zcT, zcU, zcV, zY, z0]
      rfl
     refine yF (i := 1) (N := some 13) (v := ?_) (a' := ?_) #[O,O,Y,Y,Y,Y,Y,Y,Y,Y] rfl rfl (yr HT_.out (by kernel_rfl)) (fun _ _ _ h => h) (Or.inl ⟨by rfl, ?_⟩) ?_ ?_
     rotate_left
     ·intro w'
      go_simp
      with_reducible rfl
     rotate_left
     ·simp only [Act.put, zcT, zcU, zcV, zY, z0]
      rfl
     refine yF (i := 2) (N := some 14) (v := ?_) (a' := ?_) #[O,O,O,Y,Y,Y,Y,Y,Y,Y] rfl rfl (yr HT_.out (by kernel_rfl)) (fun _ _ _ h => h) (Or.inl ⟨by rfl, ?_⟩) ?_ ?_
     rotate_left
     ·intro w'
      go_simp
      with_reducible rfl
     rotate_left
     ·simp only [Act.put, zcT, zcU, zcV, zY, z0]
      rfl
     refine yF (i := 5) (N := some 17) (v := ?_) (a' := ?_) #[O,O,O,Y,Y,O,Y,Y,Y,Y] rfl rfl (yr HT_.out (by kernel_rfl)) (fun _ _ _ h => h) (Or.inl ⟨by rfl, ?_⟩) ?_ ?_
     rotate_left
     ·intro w'
      go_simp
      with_reducible rfl
     rotate_left
     ·simp only [Act.put, zcT, zcU, zcV, zY, z0]
      rfl
     refine yF (i := 6) (N := some 18) (v := ?_) (a' := ?_) #[O,O,O,Y,Y,O,O,Y,Y,Y] rfl rfl (yr HT_.out (by kernel_rfl)) (fun _ _ _ h => h) (Or.inl ⟨by rfl, ?_⟩) ?_ ?_
     rotate_left
     ·intro w'
      go_simp
      with_reducible rfl
     rotate_left
     ·simp only [Act.put, zcT, zcU, zcV, zY, z0]
      rfl
     refine yF (i := 7) (N := some 19) (v := ?_) (a' := ?_) #[O,O,O,Y,Y,O,O,O,Y,Y] rfl rfl (yr HT_.out (by kernel_rfl)) (fun _ _ _ h => h) (Or.inl ⟨by rfl, ?_⟩) ?_ ?_
     rotate_left
     ·intro w'
      go_simp
      with_reducible rfl
     rotate_left
     ·simp only [Act.put, zcT, zcU, zcV, zY, z0]
      rfl
     refine jc (i := 3) (N := some 15) #[O,O,O,O,Y,O,O,O,Y,Y] rfl rfl (qx HT_.out (by kernel_rfl)) (by decide) (fun K hK => ?_)
     refine jT Tryz.func56 (by kernel_rfl) rfl #[.string (a0.extract 0 ((ji3) : Int).toNat)] (by rfl) rfl rfl (by (try simp only [zcW, List.map_cons, List.map_nil]); first | done | (simp only [hji3]; rfl) | rfl | (simp only [List.length_drop, List.length_take]; rfl)) ?_
     with_reducible refine (xj.calls k (a0.extract 0 ((ji3) : Int).toNat) t436 _ A6.out).mono ?_
     rintro e w' ⟨rfl, ⟨nd, rfl⟩⟩
     refine ⟨_, rfl, ?_⟩
     refine hK.out _ _ trivial (fun hHeld => ?_)
     clear hK K
     refine xV (a' := ?_) ?_ ?_
     rotate_left
     ·show Act.put _ (some 15) _ = _
      simp only [Act.put, zcT, zcU, zcV, zY, z0]
      rfl
     refine jc (i := 4) (N := some 16) #[O,O,O,O,O,O,O,O,Y,Y] rfl rfl (qx HT_.out (by kernel_rfl)) (by decide) (fun K hK => ?_)
     refine jT Tryz.func55 (by kernel_rfl) rfl #[.int .u32 t436] (by rfl) rfl rfl (by (try simp only [zcW, List.map_cons, List.map_nil]); first | done | rfl | (simp only [List.length_drop, List.length_take]; rfl)) ?_
     with_reducible refine (yD.calls t436 t437 _ A7.out).mono ?_
     rintro e w14 ⟨rfl, hb⟩
     refine ⟨_, rfl, ?_⟩
     have n0_ := za.mk (zp (by repeat (first | (with_reducible first | exact HB.out | apply zc | apply zb | apply zd) | exact HB.out)) hb)
     clear HB
     have HB := n0_
     clear n0_
     (try clear hb)
     (try clear hb2)
     (try clear hk)
     (try clear hi)
     refine hK.out _ _ trivial (fun hHeld => ?_)
     clear hK K
     refine xV (a' := ?_) ?_ ?_
     rotate_left
     ·show Act.put _ (some 16) _ = _
      simp only [Act.put, zcT, zcU, zcV, zY, z0]
      rfl
     refine yF (i := 8) (N := some 20) (v := ?_) (a' := ?_) #[O,O,O,O,O,O,O,O,O,Y] rfl rfl (yr HT_.out (by kernel_rfl)) (fun _ _ _ h => h) (Or.inl ⟨by rfl, ?_⟩) ?_ ?_
     rotate_left
     ·intro w'
      go_simp
      with_reducible rfl
     rotate_left
     ·simp only [Act.put, zcT, zcU, zcV, zY, z0]
      rfl
     refine yF (i := 9) (N := some 11) (v := ?_) (a' := ?_) #[O,O,O,O,O,O,O,O,O,O] rfl rfl (yr HT_.out (by kernel_rfl)) (fun _ _ _ h => h) (Or.inl ⟨by rfl, ?_⟩) ?_ ?_
     rotate_left
     ·intro w'
      go_simp
      with_reducible rfl
     rotate_left
     ·simp only [Act.put, zcT, zcU, zcV, zY, z0]
      rfl
     refine Yx (YG HT_.out (by kernel_rfl)) ?_
     try go_wp2
     go_ret2
     exact ⟨by first | rfl | (simp [zn, zo] <;> rfl) | (simp only [← hji3]; first | rfl | (simp [zn, zo] <;> rfl)) | (simp [*, zn, zo] <;> rfl), by repeat (first | (with_reducible first | exact HB.out | apply zc | apply zb | apply zd) | exact HB.out)⟩
    ·rw [if_neg c10] at H
     have c10b0 : (t437.toList == (a0.extract ((ji3) : Int).toNat a0.size).toList) = false := beq_eq_false_iff_ne.mpr c10
     have c10b1 : (t437.toList != (a0.extract ((ji3) : Int).toNat a0.size).toList) = true := bne_iff_ne.mpr c10
     simp only [Option.some.injEq, Prod.mk.injEq] at H
     obtain ⟨rfl, rfl⟩ := H
     go_enter Tryz.func36, Tryz.ntmps36
     try go_wp2
     refine Ys (n := 10) (S := fun w' => True) (ds := []) #[Y,Y,Y,Y,Y,Y,Y,Y,Y,Y] (by kernel_rfl) rfl rfl trivial (fun hHeld => ?_); refine vY yt.tab4 yt.bits4 (fun HT_ HW_ => ?_)
     first | (generalize hdrew_ : (World.drewN w nd).drew = w15 at hHeld ⊢; have n0_ : za (Below _ _ w15) := za.mk (by rw [← hdrew_]; exact zd (zb HB.out nd)); clear hdrew_; clear HB; have HB := n0_; clear n0_) | (have n0_ := za.mk (zd HB.out); clear HB; have HB := n0_; clear n0_; generalize w.drew = w15 at HB hHeld ⊢)
     refine yF (i := 0) (N := some 12) (v := ?_) (a' := ?_) #[O,Y,Y,Y,Y,Y,Y,Y,Y,Y] rfl rfl (yr HT_.out (by kernel_rfl)) (fun _ _ _ h => h) (Or.inl ⟨by rfl, ?_⟩) ?_ ?_
     rotate_left
     ·intro w'
      go_simp
      with_reducible rfl
     rotate_left
     ·simp only [Act.put, zcT, zcU, zcV, zY, z0]
      rfl
     refine yF (i := 1) (N := some 13) (v := ?_) (a' := ?_) #[O,O,Y,Y,Y,Y,Y,Y,Y,Y] rfl rfl (yr HT_.out (by kernel_rfl)) (fun _ _ _ h => h) (Or.inl ⟨by rfl, ?_⟩) ?_ ?_
     rotate_left
     ·intro w'
      go_simp
      with_reducible rfl
     rotate_left
     ·simp only [Act.put, zcT, zcU, zcV, zY, z0]
      rfl
     refine yF (i := 2) (N := some 14) (v := ?_) (a' := ?_) #[O,O,O,Y,Y,Y,Y,Y,Y,Y] rfl rfl (yr HT_.out (by kernel_rfl)) (fun _ _ _ h => h) (Or.inl ⟨by rfl, ?_⟩) ?_ ?_
     rotate_left
     ·intro w'
      go_simp
      with_reducible rfl
     rotate_left
     ·simp only [Act.put, zcT, zcU, zcV, zY, z0]
      rfl
     refine yF (i := 5) (N := some 17) (v := ?_) (a' := ?_) #[O,O,O,Y,Y,O,Y,Y,Y,Y] rfl rfl (yr HT_.out (by kernel_rfl)) (fun _ _ _ h => h) (Or.inl ⟨by rfl, ?_⟩) ?_ ?_
     rotate_left
     ·intro w'
      go_simp
      with_reducible rfl
     rotate_left
     ·simp only [Act.put, zcT, zcU, zcV, zY, z0]
      rfl
     refine yF (i := 6) (N := some 18) (v := ?_) (a' := ?_) #[O,O,O,Y,Y,O,O,Y,Y,Y] rfl rfl (yr HT_.out (by kernel_rfl)) (fun _ _ _ h => h) (Or.inl ⟨by rfl, ?_⟩) ?_ ?_
     rotate_left
     ·intro w'
      go_simp
      with_reducible rfl
     rotate_left
     ·simp only [Act.put, zcT, zcU, zcV, zY, z0]
      rfl
     refine yF (i := 7) (N := some 19) (v := ?_) (a' := ?_) #[O,O,O,Y,Y,O,O,O,Y,Y] rfl rfl (yr HT_.out (by kernel_rfl)) (fun _ _ _ h => h) (Or.inl ⟨by rfl, ?_⟩) ?_ ?_
     rotate_left
     ·intro w'
      go_simp
      with_reducible rfl
     rotate_left
     ·simp only [Act.put, zcT, zcU, zcV, zY, z0]
      rfl
     refine jc (i := 3) (N := some 15) #[O,O,O,O,Y,O,O,O,Y,Y] rfl rfl (qx HT_.out (by kernel_rfl)) (by decide) (fun K hK => ?_)
     refine jT Tryz.func56 (by kernel_rfl) rfl #[.string (a0.extract 0 ((ji3) : Int).toNat)] (by rfl) rfl rfl (by (try simp only [zcW, List.map_cons, List.map_nil]); first | done | (simp only [hji3]; rfl) | rfl | (simp only [List.length_drop, List.length_take]; rfl)) ?_
     with_reducible refine (xj.calls k (a0.extract 0 ((ji3) : Int).toNat) t436 _ A6.out).mono ?_
     rintro e w' ⟨rfl, ⟨nd, rfl⟩⟩
     refine ⟨_, rfl, ?_⟩
     refine hK.out _ _ trivial (fun hHeld => ?_)
     clear hK K
     refine xV (a' := ?_) ?_ ?_
     rotate_left
     ·show Act.put _ (some 15) _ = _
      simp only [Act.put, zcT, zcU, zcV, zY, z0]
      rfl
     refine jc (i := 4) (N := some 16) #[O,O,O,O,O,O,O,O,Y,Y] rfl rfl (qx HT_.out (by kernel_rfl)) (by decide) (fun K hK => ?_)
     refine jT Tryz.func55 (by kernel_rfl) rfl #[.int .u32 t436] (by rfl) rfl rfl (by (try simp only [zcW, List.map_cons, List.map_nil]); first | done | rfl | (simp only [List.length_drop, List.length_take]; rfl)) ?_
     with_reducible refine (yD.calls t436 t437 _ A7.out).mono ?_
     rintro e w16 ⟨rfl, hb⟩
     refine ⟨_, rfl, ?_⟩
     have n0_ := za.mk (zp (by repeat (first | (with_reducible first | exact HB.out | apply zc | apply zb | apply zd) | exact HB.out)) hb)
     clear HB
     have HB := n0_
     clear n0_
     (try clear hb)
     (try clear hb2)
     (try clear hk)
     (try clear hi)
     refine hK.out _ _ trivial (fun hHeld => ?_)
     clear hK K
     refine xV (a' := ?_) ?_ ?_
     rotate_left
     ·show Act.put _ (some 16) _ = _
      simp only [Act.put, zcT, zcU, zcV, zY, z0]
      rfl
     refine yF (i := 8) (N := some 20) (v := ?_) (a' := ?_) #[O,O,O,O,O,O,O,O,O,Y] rfl rfl (yr HT_.out (by kernel_rfl)) (fun _ _ _ h => h) (Or.inl ⟨by rfl, ?_⟩) ?_ ?_
     rotate_left
     ·intro w'
      go_simp
      with_reducible rfl
     rotate_left
     ·simp only [Act.put, zcT, zcU, zcV, zY, z0]
      rfl
     refine yF (i := 9) (N := some 11) (v := ?_) (a' := ?_) #[O,O,O,O,O,O,O,O,O,O] rfl rfl (yr HT_.out (by kernel_rfl)) (fun _ _ _ h => h) (Or.inl ⟨by rfl, ?_⟩) ?_ ?_
     rotate_left
     ·intro w'
      go_simp
      with_reducible rfl
     rotate_left
     ·simp only [Act.put, zcT, zcU, zcV, zY, z0]
      rfl
     refine Yx (YG HT_.out (by kernel_rfl)) ?_
     try go_wp2
     go_ret2
     exact ⟨by first | rfl | (simp [zn, zo] <;> rfl) | (simp only [← hji3]; first | rfl | (simp [zn, zo] <;> rfl)) | (simp [*, zn, zo] <;> rfl), by repeat (first | (with_reducible first | exact HB.out | apply zc | apply zb | apply zd) | exact HB.out)⟩
   ·rw [if_neg c5] at H
    exact absurd H (by simp)
  ·rw [if_neg c4] at H
   exact absurd H (by simp)
def ZU (x : Nat) : List Nat := [x % 256, x / 256 % 256, x / 65536 % 256, x / 16777216 % 256]
def vZ (x : Nat) : ByteArray := strOfNums ((ZU x).map fun (n : Nat) => (n : Int))
theorem zbS (x : Nat) : ∀ c ∈ ZU x, c < 256 := by
 intro c hc
 simp only [ZU, List.mem_cons, List.not_mem_nil, or_false] at hc
 omega
theorem Xc (x : Nat) : bl (vZ x) = ZU x := by
 unfold vZ
 rw [X2]
 ·rw [List.map_map]
  have e : (Int.toNat ∘ fun (n : Nat) => (n : Int)) = id := by funext n; rfl
  rw [e, List.map_id]
 ·intro y hy
  rw [List.mem_map] at hy
  obtain ⟨n, hn, rfl⟩ := hy
  have := zbS x n hn
  omega
theorem Jh (x : Nat) (hx : x < 4294967296) : val (ZU x) = x := by
 simp only [ZU, val]
 omega
theorem XK (x : Nat) : (vZ x).size = 4 := by
 rw [← z9, Xc]
 rfl
theorem Qp (x : Nat) (hx : x < 4294967296) : yD.f (x : Int) = some (vZ x) := by
 unfold yD.f vZ ZU
 simp only [List.map_cons, List.map_nil]
 congr 2
theorem zbl (s : ByteArray) (hs : s.size ≤ 140737488351232) (k : Nat) (hk : s.size + 9 < k) : qG.f k s = some (s ++ vZ (vo (bl s))) := by
 unfold qG.f
 rw [J1 s hs k hk]
 simp only [Option.bind_some]
 rw [Qp _ (YE _ (jk s))]
 simp only [Option.bind_some]
 rw [XK, if_pos (by omega)]
def ZR (s : ByteArray) : ByteArray × Int :=
 if s.size < 4 then (⟨#[]⟩, 5) else if vZ (vo (bl (s.extract 0 (s.size - 4)))) = s.extract (s.size - 4) s.size then (s.extract 0 (s.size - 4), 0) else (⟨#[]⟩, 7)
theorem Y9 (s : ByteArray) (hs : s.size ≤ 140737488351232) (k : Nat) (hk : s.size + 9 < k) : yt.f k s = some (ZR s) := by
 unfold yt.f ZR
 rw [xp (by omega) (by omega)]
 by_cases h : s.size < 4
 ·rw [if_pos (by omega), if_pos h]
 ·have e : ((s.size : Int) - 4).toNat = s.size - 4 := by omega
  have hsz : (s.extract 0 (s.size - 4)).size = s.size - 4 := by rw [ByteArray.size_extract]; omega
  rw [if_neg (by omega), if_pos (by omega), if_pos (by omega), if_neg h, e, J1 _ (by omega) k (by omega)]
  simp only [Option.bind_some]
  rw [Qp _ (YE _ (jk _))]
  simp only [Option.bind_some, qJ]
  split <;> rfl
theorem zbn (s : ByteArray) (h : ¬ s.size < 4) : s = s.extract 0 (s.size - 4) ++ s.extract (s.size - 4) s.size := by
 apply Zg
 rw [qq, jo, jo]
 have hl : (bl s).length ≤ s.size := by rw [z9]; omega
 rw [List.take_of_length_le hl, List.drop_zero, List.take_append_drop]
theorem XL (i a b : Nat) : 2 ^ i * (a ^^^ b) = 2 ^ i * a ^^^ 2 ^ i * b := by
 have h := Nat.shiftLeft_xor_distrib (a := a) (b := b) (i := i)
 simp only [Nat.shiftLeft_eq] at h
 rw [Nat.mul_comm, h, Nat.mul_comm a, Nat.mul_comm b]
theorem zb0 (i a : Nat) (h : a < 2 ^ i) (b : Nat) : a + 2 ^ i * b = a ^^^ 2 ^ i * b := by
 have h1 : 2 ^ i * b + a = 2 ^ i * b ||| a := Nat.two_pow_add_eq_or_of_lt h b
 rw [Nat.add_comm, h1]
 apply Nat.eq_of_testBit_eq
 intro j
 rw [Nat.testBit_or, Nat.testBit_xor, Nat.testBit_two_pow_mul]
 by_cases hj : j < i
 ·simp [show ¬ i ≤ j by omega]
 ·have : a.testBit j = false := Nat.testBit_lt_two_pow (Nat.lt_of_lt_of_le h (Nat.pow_le_pow_right (n := 2) (i := i) (j := j) (by decide) (by omega)))
  simp [this]
theorem jv (c : Nat) (l : List Nat) (hc : c < 256) : val (c :: l) = c ^^^ 256 * val l := by rw [val, JT c (val l) hc]
theorem Va (l : List Nat) : ∀ m : List Nat, (∀ c ∈ l, c < 256) → val (l ++ m) = val l ^^^ 2 ^ (8 * l.length) * val m := by
 induction l with
 | nil => intro m _; simp [val]
 | cons c l ih =>
  intro m h
  have hc := h c List.mem_cons_self
  have hl : ∀ x ∈ l, x < 256 := fun x hx => h x (List.mem_cons_of_mem _ hx)
  have e : 256 * (2 ^ (8 * l.length) * val m) = 2 ^ (8 * (c :: l).length) * val m := by
   rw [← Nat.mul_assoc, List.length_cons, Nat.mul_succ, Nat.pow_add, Nat.mul_comm 256]
  have e2 : (256 : Nat) = 2 ^ 8 := rfl
  rw [List.cons_append, jv c _ hc, jv c l hc, ih m hl, ← e, e2, XL, Nat.xor_assoc]
theorem zcs (l : List Nat) : ∀ (j b : Nat) (hj : j < l.length), (∀ c ∈ l, c < 256) → b < 8 → val (l.set j (l[j] ^^^ 2 ^ b)) = val l ^^^ 2 ^ (8 * j + b) := by
 induction l with
 | nil => intro j b hj; simp at hj
 | cons c l ih =>
  intro j b hj h hb
  have hc := h c List.mem_cons_self
  have hl : ∀ x ∈ l, x < 256 := fun x hx => h x (List.mem_cons_of_mem _ hx)
  have hp : 2 ^ b < 256 := Nat.pow_lt_pow_right (a := 2) (m := b) (n := 8) (by decide) hb
  cases j with
  | zero =>
   have hx : c ^^^ 2 ^ b < 256 := Nat.xor_lt_two_pow (n := 8) hc hp
   simp only [zcU, List.getElem_cons_zero, Nat.mul_zero, Nat.zero_add]
   rw [jv _ _ hx, jv c l hc, Nat.xor_assoc, Nat.xor_comm (2 ^ b), ← Nat.xor_assoc]
  | succ j =>
   have e2 : (256 : Nat) = 2 ^ 8 := rfl
   simp only [zcV, List.getElem_cons_succ]
   rw [jv c _ hc, ih j b (by simpa using hj) hl hb, jv c l hc, e2, XL, ← Nat.xor_assoc]
   congr 1
   rw [← Nat.pow_add]
   congr 1
   omega
theorem Qq (at_ x i : Nat) : 2 ^ at_ * (x % 2 ^ (i + 1)) = if (x / 2 ^ i) % 2 = 1 then 2 ^ at_ * (x % 2 ^ i) ^^^ 2 ^ (at_ + i) else 2 ^ at_ * (x % 2 ^ i) := by
 have h1 : x % 2 ^ (i + 1) = x % 2 ^ i + 2 ^ i * (x / 2 ^ i % 2) := Nat.mod_pow_succ
 have hlt : x % 2 ^ i < 2 ^ i := Nat.mod_lt _ (Nat.two_pow_pos i)
 split
 ·rename_i h
  rw [h1, h, zb0 i _ hlt 1, XL, Nat.mul_one, Nat.pow_add]
 ·rename_i h
  have h0 : x / 2 ^ i % 2 = 0 := by omega
  rw [h1, h0, Nat.mul_zero, Nat.add_zero]
theorem Qv (x i : Nat) : x % 2 ^ (i + 1) ≠ 0 ↔ (x / 2 ^ i) % 2 = 1 ∨ x % 2 ^ i ≠ 0 := by
 have h1 : x % 2 ^ (i + 1) = x % 2 ^ i + 2 ^ i * (x / 2 ^ i % 2) := Nat.mod_pow_succ
 have hp := Nat.two_pow_pos i
 rcases Nat.mod_two_eq_zero_or_one (x / 2 ^ i) with h | h
 ·rw [h1, h]; simp
 ·rw [h1, h]; simp
theorem zbu (k at_ e : Nat) (he : e < 4294967296) (h0 : e ≠ 0) : sK k (2 ^ at_ * e) ≠ 0 := by
 by_cases h : at_ ≤ k
 ·obtain ⟨m, rfl⟩ : ∃ m, k = at_ + m := ⟨k - at_, by omega⟩
  rw [VY, Xe]
  exact sK_ne m e he h0
 ·obtain ⟨m, rfl⟩ : ∃ m, at_ = k + m := ⟨at_ - k, by omega⟩
  rw [Nat.pow_add, Nat.mul_assoc, Xe]
  have := Nat.two_pow_pos m
  exact Nat.mul_ne_zero (by omega) h0
theorem Xt (l m : List Nat) (hl : ∀ c ∈ l, c < 256) (hm : val m = vo l) : sK (8 * l.length) (F ^^^ val (l ++ m)) = F := by
 have h1 : vo l = sK (8 * l.length) (F ^^^ val l) ^^^ F := by rw [vo, zcl l F hl]
 rw [Va l m hl, ← Nat.xor_assoc, J3, hm, h1, ← Nat.xor_assoc, Nat.xor_self, Nat.zero_xor]
theorem zbg (k x y : Nat) (hx : sK k (F ^^^ x) = F) (hy : sK k (F ^^^ y) = F) : sK k (x ^^^ y) = 0 := by
 have h : x ^^^ y = (F ^^^ x) ^^^ (F ^^^ y) := by
  rw [zbD, Nat.xor_self, Nat.zero_xor]
 rw [h, zaf, hx, hy, Nat.xor_self]
theorem VG (t s : ByteArray) (at_ e : Nat) (he : e < 4294967296) (h0 : e ≠ 0) (hs : s.size = t.size + 4) (hv : val (bl s) = val (bl t ++ ZU (vo (bl t))) ^^^ 2 ^ at_ * e) : ZR s = (⟨#[]⟩, 7) := by
 have hsz : s.size - 4 = t.size := by omega
 unfold ZR
 rw [if_neg (by omega), if_neg]
 rw [hsz]
 intro hq
 have hl : (bl (s.extract 0 t.size)).length = t.size := by rw [z9, ByteArray.size_extract]; omega
 have hcut : bl s = bl (s.extract 0 t.size) ++ bl (s.extract t.size s.size) := by
  have := zbn s (by omega)
  rw [hsz] at this
  exact (congrArg bl this).trans (qq _ _)
 have r1 := Xt (bl t) (ZU (vo (bl t))) (jk t) (Jh _ (YE _ (jk t)))
 have r2 := Xt (bl (s.extract 0 t.size)) (bl (s.extract t.size s.size)) (jk _) (by rw [← hq, Xc]; exact Jh _ (YE _ (jk _)))
 rw [← hcut, hl, hv] at r2
 rw [z9] at r1
 have r3 := zbg _ _ _ r1 r2
 rw [← Nat.xor_assoc, Nat.xor_self, Nat.zero_xor] at r3
 exact zbu _ _ _ he h0 r3
end Go.Proofs.YtepipnpfggnadaaGreat.Q
