/- Texts of this session laid together (shrink.py): what the claim's law rests on. -/
import Derived.Below
import Derived.Deep.Draws
import Derived.Deep.AppendLies
import Derived.Maps.AppendAt
import Derived.OwnWalk
import Derived.Laws.BytesArg
import Derived.Laws.MakeOwn
import Derived.Laws.OwnMore
import Derived.Deep.OwnRows
import Derived.Tactics
import Derived.Lib.ConvBytes
import Derived.Laws.Slices
import Derived.WalkKit
import Derived.KernelRfl
import Derived.RowKit3
import Derived.Deep.LoopGhost
import Derived.Deep.QuietTactic
import Derived.BigQuiet
import Derived.WideLaws
import Derived.Deep.DeepCutAuto
import Derived.Deep.CutBlock
import Derived.Deep.RegionHeld3
import Derived.Laws.Rows
import Derived.Lib.AppendStr
import Derived.ArgAppend
import Derived.Laws.IdiomCopy
import Derived.RowKit
import Derived.OrdersHeld
import Derived.Laws.BitsLemmas
import Derived.Laws.StructEq
import Derived.Test.YtepipnpfggnadaaGreatProg
import Derived.WalkMore
import Derived.Lib.Strings
import Derived.Test.YtepipnpfggnadaaGreatTFramesSameg
set_option linter.unusedVariables false
set_option linter.unusedSimpArgs false
set_option maxRecDepth 100000
set_option maxHeartbeats 8000000
open Bool renaming true → O, false → X
open List renaming setIfInBounds_toArray → Ze
open List renaming set_cons_zero → Zf
open List renaming set_cons_succ → Zg
open List renaming map_toArray → Zh
open Option renaming bind_eq_some_iff → Zi
open Go.World renaming block_lt_of_cell? → Zj
open Bool renaming eq_false_iff → Zk
open List renaming length_append → Zl
namespace Go.Proofs.YtepipnpfggnadaaGreat.Q
open Go.RowKit Go.Proofs.YtepipnpfggnadaaGreatW.PrintWords Go.Proofs.YtepipnpfggnadaaGreatW.PrintLast Go.Proofs.YtepipnpfggnadaaGreatW.PrintMore
attribute [local go_sem] xh xg xm xn yT yU xe xd
def yu.f (k : Nat) (a0_0 : Int) (a0_1 : Int) (l0_2 : List Int) (a1_0 : Int) (a1_1 : Int) (l1_2 : List Int) : Option (Bool) := if a0_0 = a1_0 then (if a0_1 = a1_1 then ((zV.f k l0_2 l1_2).bind fun t734 => (some t734)) else (some false)) else (some false)
theorem yu.calls (k : Nat) (a0_0 : Int) (a0_1 : Int) (A0_2 : Option Addr) (c0_2 : Nat) (l0_2 : List Int) (a1_0 : Int) (a1_1 : Int) (A1_2 : Option Addr) (c1_2 : Nat) (l1_2 : List Int) (r : Bool) (w : World) (hr0_2 : Kd.C (Kd.int .i64) w A0_2 l0_2.length l0_2) (hc0_2 : l0_2.length ≤ c0_2) (hr1_2 : Kd.C (Kd.int .i64) w A1_2 l1_2.length l1_2) (hc1_2 : l1_2.length ≤ c1_2) (h : yu.f k a0_0 a0_1 l0_2 a1_0 a1_1 l1_2 = some r) :
  Calls Tryz.prog 83 #[.agg #[.int .i64 a0_0, .int .i64 a0_1, .slice A0_2 l0_2.length c0_2], .agg #[.int .i64 a1_0, .int .i64 a1_1, .slice A1_2 l1_2.length c1_2]] w fun e w' => e = .returned (.bool r) ∧ Below w.heap.size w w' := by
 have hu84 := Tryz.underlying84
 have HR0_2 := zc.mk hr0_2
 have HC0_2 := zc.mk hc0_2
 clear hr0_2 hc0_2
 have HR1_2 := zc.mk hr1_2
 have HC1_2 := zc.mk hc1_2
 clear hr1_2 hc1_2
 have HB := zc.mk (Below.refl w.heap.size w)
 have H : (if a0_0 = a1_0 then (if a0_1 = a1_1 then ((zV.f k l0_2 l1_2).bind fun t734 => (some t734)) else (some false)) else (some false)) = some r := h
 clear h
 by_cases c3 : a0_0 = a1_0
 ·rw [if_pos c3] at H
  have c3b0 : (a0_0 == a1_0) = true := beq_iff_eq.mpr c3
  have c3b1 : (a0_0 != a1_0) = false := bne_eq_false_iff_eq.mpr c3
  clear c3
  by_cases c4 : a0_1 = a1_1
  ·rw [if_pos c4] at H
   have c4b0 : (a0_1 == a1_1) = true := beq_iff_eq.mpr c4
   have c4b1 : (a0_1 != a1_1) = false := bne_eq_false_iff_eq.mpr c4
   clear c4
   replace H := Zi.mp H
   obtain ⟨t734, A50, H⟩ := H
   replace H : (some t734) = some r := H
   have A5 := zc.mk A50
   clear A50
   obtain rfl := Option.some.inj H
   go_enter Tryz.func83, Tryz.ntmps83
   go_wp2_with (first | ((with_reducible refine zB (N := 2) rfl ?_); refine zA ?hg (N := 2) ?hd (cs := #[.int .i64 a0_0, .int .i64 a0_1, .slice A0_2 l0_2.length c0_2]) (t := 84) ?hr ?_; (case hd => rfl); (case hg => rfl); (case hr => first | (go_simp; done) | (go_simp; rfl)); intro gb732 hg w6 hbox hb; have n0_ := zc.mk (zs (by repeat (first | (with_reducible first | exact HB.out | apply zf | apply zd | apply ze) | exact HB.out)) hb); have n1_ := zc.mk (hbox); have n2_ := zc.mk ((by rw [hg]; exact (zr (by repeat (first | (with_reducible first | exact HB.out | apply zf | apply zd | apply ze) | exact HB.out))) : w.heap.size ≤ gb732)); have n3_ := zc.mk ((by rw [hg]; exact (zr (by repeat (first | (with_reducible first | exact HB.out | apply zf | apply zd | apply ze) | exact HB.out))) : w.heap.size ≤ gb732)); clear HB; have HB := n0_; have BK732 := n1_; have GW732 := n2_; have GE732 := n3_; clear n0_ n1_ n2_ n3_; clear hb hbox hg) | ((with_reducible refine zB (N := 3) rfl ?_); refine zA ?hg (N := 3) ?hd (cs := #[.int .i64 a1_0, .int .i64 a1_1, .slice A1_2 l1_2.length c1_2]) (t := 84) ?hr ?_; (case hd => rfl); (case hg => rfl); (case hr => first | (go_simp; done) | (go_simp; rfl)); intro gb733 hg w7 hbox hb; have n0_ := zc.mk (zx (g := gb732) (o := .cells #[.int .i64 a0_0, .int .i64 a0_1, .slice A0_2 l0_2.length c0_2] 84 (0, 0)) (by (with_reducible repeat (first | refine zh ?_ _ | refine zj ?_ | refine zi ?_ _)); exact BK732.out) hb); have n1_ := zc.mk (zs (by repeat (first | (with_reducible first | exact HB.out | apply zf | apply zd | apply ze | refine zg ?_ GE732.out) | exact HB.out)) hb); have n2_ := zc.mk (hbox); have n3_ := zc.mk ((by rw [hg]; exact (zr (by repeat (first | (with_reducible first | exact HB.out | apply zf | apply zd | apply ze | refine zg ?_ GE732.out) | exact HB.out))) : w.heap.size ≤ gb733)); have n4_ := zc.mk ((by rw [hg]; exact (zr (by repeat (first | (with_reducible first | exact HB.out | apply zf | apply zd | apply ze | refine zg ?_ GE732.out) | exact HB.out))) : w.heap.size ≤ gb733)); have n5_ := zc.mk ((by rw [hg]; exact Nat.ne_of_lt (zN (g := gb732) (o := .cells #[.int .i64 a0_0, .int .i64 a0_1, .slice A0_2 l0_2.length c0_2] 84 (0, 0)) (by (with_reducible repeat (first | refine zh ?_ _ | refine zj ?_ | refine zi ?_ _)); exact BK732.out)) : gb732 ≠ gb733)); have n6_ := zc.mk ((by rw [hg]; exact Nat.ne_of_gt (zN (g := gb732) (o := .cells #[.int .i64 a0_0, .int .i64 a0_1, .slice A0_2 l0_2.length c0_2] 84 (0, 0)) (by (with_reducible repeat (first | refine zh ?_ _ | refine zj ?_ | refine zi ?_ _)); exact BK732.out)) : gb733 ≠ gb732)); clear BK732; clear HB; have BK732 := n0_; have HB := n1_; have BK733 := n2_; have GW733 := n3_; have GE733 := n4_; have NB732_733 := n5_; have NB733_732 := n6_; clear n0_ n1_ n2_ n3_ n4_ n5_ n6_; clear hb hbox hg; have hnb8 := NB732_733.out; have hnc8 := NB733_732.out; have hcz9_0 : w7.cell? ⟨gb732, 0, none⟩ = some (.int .i64 a0_0) := (za BK732.out 0).trans rfl; have hcz9_1 : w7.cell? ⟨gb732, 1, none⟩ = some (.int .i64 a0_1) := (za BK732.out 1).trans rfl; have hcz9_2 : w7.cell? ⟨gb732, 2, none⟩ = some (.slice A0_2 l0_2.length c0_2) := (za BK732.out 2).trans rfl; have hfz9_0 := zb BK732.out 0; have hfz9_1 := zb BK732.out 1; have hfz9_2 := zb BK732.out 2; have hcz10_0 : w7.cell? ⟨gb733, 0, none⟩ = some (.int .i64 a1_0) := (za BK733.out 0).trans rfl; have hcz10_1 : w7.cell? ⟨gb733, 1, none⟩ = some (.int .i64 a1_1) := (za BK733.out 1).trans rfl; have hcz10_2 : w7.cell? ⟨gb733, 2, none⟩ = some (.slice A1_2 l1_2.length c1_2) := (za BK733.out 2).trans rfl; have hfz10_0 := zb BK733.out 0; have hfz10_1 := zb BK733.out 1; have hfz10_2 := zb BK733.out 2) | (go_at_call 125; (with_reducible refine (zV.calls k _ _ l0_2 _ _ l1_2 t734 _ ?side1 ?side2 ?side3 ?side4 A5.out).mono ?_); (case side1 => repeat (first | exact (Kd.C_below HR0_2.out HB.out) | (with_reducible refine Kd.C_alloc ?_ _) | (with_reducible refine Kd.C_drewN ?_ _) | (with_reducible refine Kd.C_drew ?_))); (case side2 => exact HC0_2.out); (case side3 => repeat (first | exact (Kd.C_below HR1_2.out HB.out) | (with_reducible refine Kd.C_alloc ?_ _) | (with_reducible refine Kd.C_drewN ?_ _) | (with_reducible refine Kd.C_drew ?_))); (case side4 => exact HC1_2.out); rintro e w' ⟨rfl, ⟨nd, rfl⟩⟩))
   go_ret
   exact ⟨by first | rfl | (simp [zu, zv] <;> rfl) | (simp [*, zu, zv] <;> rfl), by repeat (first | (with_reducible first | exact HB.out | apply zf | apply zd | apply ze | refine zg ?_ GE732.out | refine zg ?_ GE733.out) | exact HB.out)⟩
  ·rw [if_neg c4] at H
   have c4b0 : (a0_1 == a1_1) = false := beq_eq_false_iff_ne.mpr c4
   have c4b1 : (a0_1 != a1_1) = true := bne_iff_ne.mpr c4
   obtain rfl := Option.some.inj H
   go_enter Tryz.func83, Tryz.ntmps83
   go_wp2_with (first | ((with_reducible refine zB (N := 2) rfl ?_); refine zA ?hg (N := 2) ?hd (cs := #[.int .i64 a0_0, .int .i64 a0_1, .slice A0_2 l0_2.length c0_2]) (t := 84) ?hr ?_; (case hd => rfl); (case hg => rfl); (case hr => first | (go_simp; done) | (go_simp; rfl)); intro gb732 hg w11 hbox hb; have n0_ := zc.mk (zs (by repeat (first | (with_reducible first | exact HB.out | apply zf | apply zd | apply ze) | exact HB.out)) hb); have n1_ := zc.mk (hbox); have n2_ := zc.mk ((by rw [hg]; exact (zr (by repeat (first | (with_reducible first | exact HB.out | apply zf | apply zd | apply ze) | exact HB.out))) : w.heap.size ≤ gb732)); have n3_ := zc.mk ((by rw [hg]; exact (zr (by repeat (first | (with_reducible first | exact HB.out | apply zf | apply zd | apply ze) | exact HB.out))) : w.heap.size ≤ gb732)); clear HB; have HB := n0_; have BK732 := n1_; have GW732 := n2_; have GE732 := n3_; clear n0_ n1_ n2_ n3_; clear hb hbox hg) | ((with_reducible refine zB (N := 3) rfl ?_); refine zA ?hg (N := 3) ?hd (cs := #[.int .i64 a1_0, .int .i64 a1_1, .slice A1_2 l1_2.length c1_2]) (t := 84) ?hr ?_; (case hd => rfl); (case hg => rfl); (case hr => first | (go_simp; done) | (go_simp; rfl)); intro gb733 hg w12 hbox hb; have n0_ := zc.mk (zx (g := gb732) (o := .cells #[.int .i64 a0_0, .int .i64 a0_1, .slice A0_2 l0_2.length c0_2] 84 (0, 0)) (by (with_reducible repeat (first | refine zh ?_ _ | refine zj ?_ | refine zi ?_ _)); exact BK732.out) hb); have n1_ := zc.mk (zs (by repeat (first | (with_reducible first | exact HB.out | apply zf | apply zd | apply ze | refine zg ?_ GE732.out) | exact HB.out)) hb); have n2_ := zc.mk (hbox); have n3_ := zc.mk ((by rw [hg]; exact (zr (by repeat (first | (with_reducible first | exact HB.out | apply zf | apply zd | apply ze | refine zg ?_ GE732.out) | exact HB.out))) : w.heap.size ≤ gb733)); have n4_ := zc.mk ((by rw [hg]; exact (zr (by repeat (first | (with_reducible first | exact HB.out | apply zf | apply zd | apply ze | refine zg ?_ GE732.out) | exact HB.out))) : w.heap.size ≤ gb733)); have n5_ := zc.mk ((by rw [hg]; exact Nat.ne_of_lt (zN (g := gb732) (o := .cells #[.int .i64 a0_0, .int .i64 a0_1, .slice A0_2 l0_2.length c0_2] 84 (0, 0)) (by (with_reducible repeat (first | refine zh ?_ _ | refine zj ?_ | refine zi ?_ _)); exact BK732.out)) : gb732 ≠ gb733)); have n6_ := zc.mk ((by rw [hg]; exact Nat.ne_of_gt (zN (g := gb732) (o := .cells #[.int .i64 a0_0, .int .i64 a0_1, .slice A0_2 l0_2.length c0_2] 84 (0, 0)) (by (with_reducible repeat (first | refine zh ?_ _ | refine zj ?_ | refine zi ?_ _)); exact BK732.out)) : gb733 ≠ gb732)); clear BK732; clear HB; have BK732 := n0_; have HB := n1_; have BK733 := n2_; have GW733 := n3_; have GE733 := n4_; have NB732_733 := n5_; have NB733_732 := n6_; clear n0_ n1_ n2_ n3_ n4_ n5_ n6_; clear hb hbox hg; have hnb13 := NB732_733.out; have hnc13 := NB733_732.out; have hcz14_0 : w12.cell? ⟨gb732, 0, none⟩ = some (.int .i64 a0_0) := (za BK732.out 0).trans rfl; have hcz14_1 : w12.cell? ⟨gb732, 1, none⟩ = some (.int .i64 a0_1) := (za BK732.out 1).trans rfl; have hcz14_2 : w12.cell? ⟨gb732, 2, none⟩ = some (.slice A0_2 l0_2.length c0_2) := (za BK732.out 2).trans rfl; have hfz14_0 := zb BK732.out 0; have hfz14_1 := zb BK732.out 1; have hfz14_2 := zb BK732.out 2; have hcz15_0 : w12.cell? ⟨gb733, 0, none⟩ = some (.int .i64 a1_0) := (za BK733.out 0).trans rfl; have hcz15_1 : w12.cell? ⟨gb733, 1, none⟩ = some (.int .i64 a1_1) := (za BK733.out 1).trans rfl; have hcz15_2 : w12.cell? ⟨gb733, 2, none⟩ = some (.slice A1_2 l1_2.length c1_2) := (za BK733.out 2).trans rfl; have hfz15_0 := zb BK733.out 0; have hfz15_1 := zb BK733.out 1; have hfz15_2 := zb BK733.out 2))
   go_ret
   exact ⟨by first | rfl | (simp [zu, zv] <;> rfl) | (simp [*, zu, zv] <;> rfl), by repeat (first | (with_reducible first | exact HB.out | apply zf | apply zd | apply ze | refine zg ?_ GE732.out | refine zg ?_ GE733.out) | exact HB.out)⟩
 ·rw [if_neg c3] at H
  have c3b0 : (a0_0 == a1_0) = false := beq_eq_false_iff_ne.mpr c3
  have c3b1 : (a0_0 != a1_0) = true := bne_iff_ne.mpr c3
  obtain rfl := Option.some.inj H
  go_enter Tryz.func83, Tryz.ntmps83
  go_wp2_with (first | ((with_reducible refine zB (N := 2) rfl ?_); refine zA ?hg (N := 2) ?hd (cs := #[.int .i64 a0_0, .int .i64 a0_1, .slice A0_2 l0_2.length c0_2]) (t := 84) ?hr ?_; (case hd => rfl); (case hg => rfl); (case hr => first | (go_simp; done) | (go_simp; rfl)); intro gb732 hg w16 hbox hb; have n0_ := zc.mk (zs (by repeat (first | (with_reducible first | exact HB.out | apply zf | apply zd | apply ze) | exact HB.out)) hb); have n1_ := zc.mk (hbox); have n2_ := zc.mk ((by rw [hg]; exact (zr (by repeat (first | (with_reducible first | exact HB.out | apply zf | apply zd | apply ze) | exact HB.out))) : w.heap.size ≤ gb732)); have n3_ := zc.mk ((by rw [hg]; exact (zr (by repeat (first | (with_reducible first | exact HB.out | apply zf | apply zd | apply ze) | exact HB.out))) : w.heap.size ≤ gb732)); clear HB; have HB := n0_; have BK732 := n1_; have GW732 := n2_; have GE732 := n3_; clear n0_ n1_ n2_ n3_; clear hb hbox hg) | ((with_reducible refine zB (N := 3) rfl ?_); refine zA ?hg (N := 3) ?hd (cs := #[.int .i64 a1_0, .int .i64 a1_1, .slice A1_2 l1_2.length c1_2]) (t := 84) ?hr ?_; (case hd => rfl); (case hg => rfl); (case hr => first | (go_simp; done) | (go_simp; rfl)); intro gb733 hg w17 hbox hb; have n0_ := zc.mk (zx (g := gb732) (o := .cells #[.int .i64 a0_0, .int .i64 a0_1, .slice A0_2 l0_2.length c0_2] 84 (0, 0)) (by (with_reducible repeat (first | refine zh ?_ _ | refine zj ?_ | refine zi ?_ _)); exact BK732.out) hb); have n1_ := zc.mk (zs (by repeat (first | (with_reducible first | exact HB.out | apply zf | apply zd | apply ze | refine zg ?_ GE732.out) | exact HB.out)) hb); have n2_ := zc.mk (hbox); have n3_ := zc.mk ((by rw [hg]; exact (zr (by repeat (first | (with_reducible first | exact HB.out | apply zf | apply zd | apply ze | refine zg ?_ GE732.out) | exact HB.out))) : w.heap.size ≤ gb733)); have n4_ := zc.mk ((by rw [hg]; exact (zr (by repeat (first | (with_reducible first | exact HB.out | apply zf | apply zd | apply ze | refine zg ?_ GE732.out) | exact HB.out))) : w.heap.size ≤ gb733)); have n5_ := zc.mk ((by rw [hg]; exact Nat.ne_of_lt (zN (g := gb732) (o := .cells #[.int .i64 a0_0, .int .i64 a0_1, .slice A0_2 l0_2.length c0_2] 84 (0, 0)) (by (with_reducible repeat (first | refine zh ?_ _ | refine zj ?_ | refine zi ?_ _)); exact BK732.out)) : gb732 ≠ gb733)); have n6_ := zc.mk ((by rw [hg]; exact Nat.ne_of_gt (zN (g := gb732) (o := .cells #[.int .i64 a0_0, .int .i64 a0_1, .slice A0_2 l0_2.length c0_2] 84 (0, 0)) (by (with_reducible repeat (first | refine zh ?_ _ | refine zj ?_ | refine zi ?_ _)); exact BK732.out)) : gb733 ≠ gb732)); clear BK732; clear HB; have BK732 := n0_; have HB := n1_; have BK733 := n2_; have GW733 := n3_; have GE733 := n4_; have NB732_733 := n5_; have NB733_732 := n6_; clear n0_ n1_ n2_ n3_ n4_ n5_ n6_; clear hb hbox hg; have hnb18 := NB732_733.out; have hnc18 := NB733_732.out; have hcz19_0 : w17.cell? ⟨gb732, 0, none⟩ = some (.int .i64 a0_0) := (za BK732.out 0).trans rfl; have hcz19_1 : w17.cell? ⟨gb732, 1, none⟩ = some (.int .i64 a0_1) := (za BK732.out 1).trans rfl; have hcz19_2 : w17.cell? ⟨gb732, 2, none⟩ = some (.slice A0_2 l0_2.length c0_2) := (za BK732.out 2).trans rfl; have hfz19_0 := zb BK732.out 0; have hfz19_1 := zb BK732.out 1; have hfz19_2 := zb BK732.out 2; have hcz20_0 : w17.cell? ⟨gb733, 0, none⟩ = some (.int .i64 a1_0) := (za BK733.out 0).trans rfl; have hcz20_1 : w17.cell? ⟨gb733, 1, none⟩ = some (.int .i64 a1_1) := (za BK733.out 1).trans rfl; have hcz20_2 : w17.cell? ⟨gb733, 2, none⟩ = some (.slice A1_2 l1_2.length c1_2) := (za BK733.out 2).trans rfl; have hfz20_0 := zb BK733.out 0; have hfz20_1 := zb BK733.out 1; have hfz20_2 := zb BK733.out 2))
  go_ret
  exact ⟨by first | rfl | (simp [zu, zv] <;> rfl) | (simp [*, zu, zv] <;> rfl), by repeat (first | (with_reducible first | exact HB.out | apply zf | apply zd | apply ze | refine zg ?_ GE732.out | refine zg ?_ GE733.out) | exact HB.out)⟩
def zD.l0 : Nat → List (S86) → List (S86) → Int → Option (Bool)
 | 0, _, _, _ => none
 | k + 1, x0, x1, x5 => if x5 < (x0.length : Int) then (if 0 ≤ x5 then (if x5 < (x1.length : Int) then (if ((zt x0 x5).f0).toList = ((zt x1 x5).f0).toList then ((yu.f k ((zt x0 x5).f1.f0) ((zt x0 x5).f1.f1) ((zt x0 x5).f1.f2) ((zt x1 x5).f1.f0) ((zt x1 x5).f1.f1) ((zt x1 x5).f1.f2)).bind fun t739 => (if t739 = true then (zD.l0 k x0 x1 (wrap64 (x5 + 1))) else (some false))) else (some false)) else (none)) else (none)) else (some true)
def zD.f (k : Nat) (l0 : List (S86)) (l1 : List (S86)) : Option (Bool) := if (l0.length : Int) = (l1.length : Int) then (zD.l0 k l0 l1 0) else (some false)
def zD.T6 : Bool × List (List Nat × List Nat) := (true, [([], []), ([], []), ([0, 1], [0, 1]), ([2], [2]), ([3], [3]), ([], []), ([], []), ([5, 6], [5, 6]), ([7], [7]), ([8], [8]), ([4, 9], [4, 9]), ([10], [10]), ([11], [11]), ([11], [11]), ([12, 13, 11], [11, 12, 13]), ([14, 11], [11, 14]), ([15, 11], [11, 15]), ([11], [11]), ([11], [11]), ([17, 18, 11], [11, 17, 18]), ([19, 11], [11, 19]), ([20, 11], [11, 20]), ([16, 21, 11, 11], [11, 16, 21]), ([22, 11], [11, 22]), ([11, 23], [11, 23])])
def zD.B6 : List Nat := [0, 0, 3, 7, 15, 0, 0, 96, 224, 480, 1023, 2047, 4095, 4095, 16383, 32767, 65535, 4095, 4095, 397311, 921599, 1970175, 4194303, 8388607, 16777215]
theorem zD.tab6 : yR .any (qS Tryz.f43 6) = zD.T6 := by kernel_rfl
theorem zD.bits6 : xt zD.T6.2 zD.B6 = true := by kernel_rfl
theorem zD.calls (k : Nat) (A0 : Option Addr) (c0 : Nat) (l0 : List (S86)) (A1 : Option Addr) (c1 : Nat) (l1 : List (S86)) (r : Bool) (w : World) (hr0 : Kd.C k86 w A0 l0.length l0) (hc0 : l0.length ≤ c0) (hr1 : Kd.C k86 w A1 l1.length l1) (hc1 : l1.length ≤ c1) (h : zD.f k l0 l1 = some r) :
  Calls Tryz.prog 43 #[.slice A0 l0.length c0, .slice A1 l1.length c1] w fun e w' => e = .returned (.bool r) ∧ Below w.heap.size w w' := by
 have hu84 := Tryz.underlying84
 have HR0 := zc.mk hr0
 have HC0 := zc.mk hc0
 clear hr0 hc0
 have HR1 := zc.mk hr1
 have HC1 := zc.mk hc1
 clear hr1 hc1
 have HB := zc.mk (Below.refl w.heap.size w)
 have H : (if (l0.length : Int) = (l1.length : Int) then (zD.l0 k l0 l1 0) else (some false)) = some r := h
 clear h
 by_cases c3 : (l0.length : Int) = (l1.length : Int)
 ·rw [if_pos c3] at H
  have c3b0 : ((l0.length : Int) == (l1.length : Int)) = true := beq_iff_eq.mpr c3
  have c3b1 : ((l0.length : Int) != (l1.length : Int)) = false := bne_eq_false_iff_eq.mpr c3
  have c3b2 : (l0.length == l1.length) = true := by first | simpa using c3 | (simp at c3 ⊢; omega)
  clear c3
  have H' := zc.mk H
  clear H
  go_enter Tryz.func43, Tryz.ntmps43
  go_wp2
  go_loopg [5] k (fun kq v5 w' => ∃ (x5_1 : Int), v5 = .int .i64 x5_1 ∧ zc (zD.l0 kq l0 l1 x5_1 = some r) ∧ zc (kq ≤ k) ∧ zc (Below w.heap.size w w'))
  case atStart => exact ⟨(0), (by first | rfl | (simp; done) | (simp [*]; done)), H', ⟨Nat.le_refl _⟩, ⟨by repeat (first | (with_reducible first | exact HB.out | apply zf | apply zd | apply ze) | exact HB.out)⟩⟩
  case round =>
   clear H'
   try clear c1
   try clear p2
   try clear c3
   try clear c3b0
   try clear c3b1
   try clear c3b2
   obtain ⟨x5_1, rfl, HA, HK1, HB⟩ := hrel
   cases gk with
   | zero => exact absurd HA.out (by simp [zD.l0])
   | succ k1 =>
    have H := HA.out
    clear HA
    simp only [zD.l0] at H
    by_cases c4 : x5_1 < (l0.length : Int)
    ·rw [if_pos c4] at H
     have c4b0 : decide (x5_1 < (l0.length : Int)) = true := decide_eq_true c4
     clear c4
     by_cases c5 : 0 ≤ x5_1
     ·rw [if_pos c5] at H
      have c5b0 : decide (0 ≤ x5_1) = true := decide_eq_true c5
      clear c5
      by_cases c6 : x5_1 < (l1.length : Int)
      ·rw [if_pos c6] at H
       have c6b0 : decide (x5_1 < (l1.length : Int)) = true := decide_eq_true c6
       clear c6
       by_cases c7 : ((zt l0 x5_1).f0).toList = ((zt l1 x5_1).f0).toList
       ·rw [if_pos c7] at H
        have c7b0 : (((zt l0 x5_1).f0).toList == ((zt l1 x5_1).f0).toList) = true := beq_iff_eq.mpr c7
        have c7b1 : (((zt l0 x5_1).f0).toList != ((zt l1 x5_1).f0).toList) = false := bne_eq_false_iff_eq.mpr c7
        clear c7
        replace H := Zi.mp H
        obtain ⟨t739, A80, H⟩ := H
        replace H : (if t739 = true then (zD.l0 k1 l0 l1 (wrap64 (x5_1 + 1))) else (some false)) = some r := H
        have A8 := zc.mk A80
        clear A80
        by_cases c9 : t739 = true
        ·subst c9
         have H1 : (zD.l0 k1 l0 l1 (wrap64 (x5_1 + 1))) = some r := by rw [if_pos rfl] at H; exact H
         clear H
         have H := H1
         clear H1
         have H' := zc.mk H
         clear H
         try go_wp2
         have n0_ := zc.mk (ze HB.out)
         clear HB
         have HB := n0_
         clear n0_
         have p735 : 0 ≤ (x5_1 : Int) := of_decide_eq_true (by first | (with_reducible assumption) | assumption)
         have q735 : x5_1 < (l0.length : Int) := of_decide_eq_true (by first | (with_reducible assumption) | assumption)
         obtain ⟨ad735, A735_3, c735_3, e735, hx735_0, hx735_1, hx735_2, hx735_3, hl735_3, hi735_3⟩ := xa HR0.out x5_1 p735 q735
         have hw735_3 := hx735_3
         have hw735_2 := hx735_2
         have hw735_1 := hx735_1
         have hw735_0 := hx735_0
         cases e735
         replace hx735_0 := (HB.out.cell (Zj w _ hx735_0)).trans hx735_0
         replace hx735_1 := (HB.out.cell (Zj w _ hx735_1)).trans hx735_1
         replace hx735_2 := (HB.out.cell (Zj w _ hx735_2)).trans hx735_2
         replace hx735_3 := (HB.out.cell (Zj w _ hx735_3)).trans hx735_3
         have HR735_3 := zc.mk hi735_3
         have HC735_3 := zc.mk hl735_3
         clear hi735_3 hl735_3
         replace p735 := eq_true p735
         replace q735 := eq_true q735
         have p736 : 0 ≤ (x5_1 : Int) := of_decide_eq_true (by first | (with_reducible assumption) | assumption)
         have q736 : x5_1 < (l1.length : Int) := of_decide_eq_true (by first | (with_reducible assumption) | assumption)
         obtain ⟨ad736, A736_3, c736_3, e736, hx736_0, hx736_1, hx736_2, hx736_3, hl736_3, hi736_3⟩ := xa HR1.out x5_1 p736 q736
         have hw736_3 := hx736_3
         have hw736_2 := hx736_2
         have hw736_1 := hx736_1
         have hw736_0 := hx736_0
         cases e736
         replace hx736_0 := (HB.out.cell (Zj w _ hx736_0)).trans hx736_0
         replace hx736_1 := (HB.out.cell (Zj w _ hx736_1)).trans hx736_1
         replace hx736_2 := (HB.out.cell (Zj w _ hx736_2)).trans hx736_2
         replace hx736_3 := (HB.out.cell (Zj w _ hx736_3)).trans hx736_3
         have HR736_3 := zc.mk hi736_3
         have HC736_3 := zc.mk hl736_3
         clear hi736_3 hl736_3
         replace p736 := eq_true p736
         replace q736 := eq_true q736
         have p737 : 0 ≤ (x5_1 : Int) := of_decide_eq_true (by first | (with_reducible assumption) | assumption)
         have q737 : x5_1 < (l0.length : Int) := of_decide_eq_true (by first | (with_reducible assumption) | assumption)
         obtain ⟨ad737, A737_3, c737_3, e737, hx737_0, hx737_1, hx737_2, hx737_3, hl737_3, hi737_3⟩ := xa HR0.out x5_1 p737 q737
         have hw737_3 := hx737_3
         have hw737_2 := hx737_2
         have hw737_1 := hx737_1
         have hw737_0 := hx737_0
         obtain rfl : ad735 = ad737 := (by injection e737)
         replace hx737_0 := (HB.out.cell (Zj w _ hx737_0)).trans hx737_0
         replace hx737_1 := (HB.out.cell (Zj w _ hx737_1)).trans hx737_1
         replace hx737_2 := (HB.out.cell (Zj w _ hx737_2)).trans hx737_2
         replace hx737_3 := (HB.out.cell (Zj w _ hx737_3)).trans hx737_3
         have HR737_3 := zc.mk hi737_3
         have HC737_3 := zc.mk hl737_3
         clear hi737_3 hl737_3
         replace p737 := eq_true p737
         replace q737 := eq_true q737
         have ea_ := Option.some.inj (hx735_3.symm.trans hx737_3)
         injection ea_ with ea_ en_ ec_
         subst ea_
         subst ec_
         clear en_
         have p738 : 0 ≤ (x5_1 : Int) := of_decide_eq_true (by first | (with_reducible assumption) | assumption)
         have q738 : x5_1 < (l1.length : Int) := of_decide_eq_true (by first | (with_reducible assumption) | assumption)
         obtain ⟨ad738, A738_3, c738_3, e738, hx738_0, hx738_1, hx738_2, hx738_3, hl738_3, hi738_3⟩ := xa HR1.out x5_1 p738 q738
         have hw738_3 := hx738_3
         have hw738_2 := hx738_2
         have hw738_1 := hx738_1
         have hw738_0 := hx738_0
         obtain rfl : ad736 = ad738 := (by injection e738)
         replace hx738_0 := (HB.out.cell (Zj w _ hx738_0)).trans hx738_0
         replace hx738_1 := (HB.out.cell (Zj w _ hx738_1)).trans hx738_1
         replace hx738_2 := (HB.out.cell (Zj w _ hx738_2)).trans hx738_2
         replace hx738_3 := (HB.out.cell (Zj w _ hx738_3)).trans hx738_3
         have HR738_3 := zc.mk hi738_3
         have HC738_3 := zc.mk hl738_3
         clear hi738_3 hl738_3
         replace p738 := eq_true p738
         replace q738 := eq_true q738
         have ea_ := Option.some.inj (hx736_3.symm.trans hx738_3)
         injection ea_ with ea_ en_ ec_
         subst ea_
         subst ec_
         clear en_
         refine yK (n := 25) (S := fun w' => w'.cell? (ad735.add ((x5_1).toNat * 4)) = some (.string ((zt l0 x5_1).f0)) ∧ w'.cell? ⟨(ad735.add ((x5_1).toNat * 4)).block, (ad735.add ((x5_1).toNat * 4)).off + 1, none⟩ = some (.int .i64 ((zt l0 x5_1).f1.f0)) ∧ w'.cell? ⟨(ad735.add ((x5_1).toNat * 4)).block, (ad735.add ((x5_1).toNat * 4)).off + 2, none⟩ = some (.int .i64 ((zt l0 x5_1).f1.f1)) ∧ w'.cell? ⟨(ad735.add ((x5_1).toNat * 4)).block, (ad735.add ((x5_1).toNat * 4)).off + 3, none⟩ = some (.slice A735_3 ((zt l0 x5_1).f1.f2).length c735_3) ∧ w'.cell? (ad736.add ((x5_1).toNat * 4)) = some (.string ((zt l1 x5_1).f0)) ∧ w'.cell? ⟨(ad736.add ((x5_1).toNat * 4)).block, (ad736.add ((x5_1).toNat * 4)).off + 1, none⟩ = some (.int .i64 ((zt l1 x5_1).f1.f0)) ∧ w'.cell? ⟨(ad736.add ((x5_1).toNat * 4)).block, (ad736.add ((x5_1).toNat * 4)).off + 2, none⟩ = some (.int .i64 ((zt l1 x5_1).f1.f1)) ∧ w'.cell? ⟨(ad736.add ((x5_1).toNat * 4)).block, (ad736.add ((x5_1).toNat * 4)).off + 3, none⟩ = some (.slice A736_3 ((zt l1 x5_1).f1.f2).length c736_3) ∧ w'.cell? (ad735.add ((x5_1).toNat * 4)) = some (.string ((zt l0 x5_1).f0)) ∧ w'.cell? ⟨(ad735.add ((x5_1).toNat * 4)).block, (ad735.add ((x5_1).toNat * 4)).off + 1, none⟩ = some (.int .i64 ((zt l0 x5_1).f1.f0)) ∧ w'.cell? ⟨(ad735.add ((x5_1).toNat * 4)).block, (ad735.add ((x5_1).toNat * 4)).off + 2, none⟩ = some (.int .i64 ((zt l0 x5_1).f1.f1)) ∧ w'.cell? ⟨(ad735.add ((x5_1).toNat * 4)).block, (ad735.add ((x5_1).toNat * 4)).off + 3, none⟩ = some (.slice A735_3 ((zt l0 x5_1).f1.f2).length c735_3) ∧ w'.cell? (ad736.add ((x5_1).toNat * 4)) = some (.string ((zt l1 x5_1).f0)) ∧ w'.cell? ⟨(ad736.add ((x5_1).toNat * 4)).block, (ad736.add ((x5_1).toNat * 4)).off + 1, none⟩ = some (.int .i64 ((zt l1 x5_1).f1.f0)) ∧ w'.cell? ⟨(ad736.add ((x5_1).toNat * 4)).block, (ad736.add ((x5_1).toNat * 4)).off + 2, none⟩ = some (.int .i64 ((zt l1 x5_1).f1.f1)) ∧ w'.cell? ⟨(ad736.add ((x5_1).toNat * 4)).block, (ad736.add ((x5_1).toNat * 4)).off + 3, none⟩ = some (.slice A736_3 ((zt l1 x5_1).f1.f2).length c736_3)) (ds := []) #[X,X,X,X,X,X,X,X,X,X,X,X,X,X,X,X,X,X,X,X,X,X,X,X,X] (by kernel_rfl) rfl rfl ⟨((HB.out.cell (Zj w _ hw735_0)).trans hw735_0), ((HB.out.cell (Zj w _ hw735_1)).trans hw735_1), ((HB.out.cell (Zj w _ hw735_2)).trans hw735_2), ((HB.out.cell (Zj w _ hw735_3)).trans hw735_3), ((HB.out.cell (Zj w _ hw736_0)).trans hw736_0), ((HB.out.cell (Zj w _ hw736_1)).trans hw736_1), ((HB.out.cell (Zj w _ hw736_2)).trans hw736_2), ((HB.out.cell (Zj w _ hw736_3)).trans hw736_3), ((HB.out.cell (Zj w _ hw737_0)).trans hw737_0), ((HB.out.cell (Zj w _ hw737_1)).trans hw737_1), ((HB.out.cell (Zj w _ hw737_2)).trans hw737_2), ((HB.out.cell (Zj w _ hw737_3)).trans hw737_3), ((HB.out.cell (Zj w _ hw738_0)).trans hw738_0), ((HB.out.cell (Zj w _ hw738_1)).trans hw738_1), ((HB.out.cell (Zj w _ hw738_2)).trans hw738_2), ((HB.out.cell (Zj w _ hw738_3)).trans hw738_3)⟩ (fun hHeld => ?_); refine ym zD.tab6 zD.bits6 (fun HT_ HW_ => ?_)
         generalize wr.drew = w10 at HB HR735_3 HR736_3 HR737_3 HR738_3 hx735_0 hx735_1 hx735_2 hx735_3 hx736_0 hx736_1 hx736_2 hx736_3 hx737_0 hx737_1 hx737_2 hx737_3 hx738_0 hx738_1 hx738_2 hx738_3 hHeld ⊢
         refine zq (i := 0) (N := some 17) (v := ?_) (a' := ?_) #[O,X,X,X,X,X,X,X,X,X,X,X,X,X,X,X,X,X,X,X,X,X,X,X,X] rfl rfl (zo HT_.out (by kernel_rfl)) (fun _ _ _ h => h) (Or.inl ⟨by rfl, ?_⟩) ?_ ?_
         rotate_left
         ·intro w'
          go_simp
          with_reducible rfl
         rotate_left
         ·simp only [Act.put, Ze, Zf, Zg, zl, zm]
          rfl
         refine zq (i := 1) (N := some 18) (v := ?_) (a' := ?_) #[O,O,X,X,X,X,X,X,X,X,X,X,X,X,X,X,X,X,X,X,X,X,X,X,X] rfl rfl (zo HT_.out (by kernel_rfl)) (fun _ _ _ h => h) (Or.inl ⟨by rfl, ?_⟩) ?_ ?_
         rotate_left
         ·intro w'
          go_simp
          with_reducible rfl
         rotate_left
         ·simp only [Act.put, Ze, Zf, Zg, zl, zm]
          rfl
         refine zq (i := 2) (N := some 19) (v := ?_) (a' := ?_) #[O,O,O,X,X,X,X,X,X,X,X,X,X,X,X,X,X,X,X,X,X,X,X,X,X] rfl rfl (zo HT_.out (by kernel_rfl)) (fun _ _ _ h => h) (Or.inl ⟨by rfl, ?_⟩) ?_ ?_
         rotate_left
         ·intro w'
          go_simp
          with_reducible rfl
         rotate_left
         ·simp only [Act.put, Ze, Zf, Zg, zl, zm]
          rfl
         refine zq (i := 3) (N := some 20) (v := ?_) (a' := ?_) #[O,O,O,O,X,X,X,X,X,X,X,X,X,X,X,X,X,X,X,X,X,X,X,X,X] rfl rfl (zo HT_.out (by kernel_rfl)) (fun _ _ _ h => h) (Or.inl ⟨by rfl, ?_⟩) ?_ ?_
         rotate_left
         ·intro w'
          go_simp
          with_reducible rfl
         rotate_left
         ·simp only [Act.put, Ze, Zf, Zg, zl, zm]
          rfl
         refine zq (i := 5) (N := some 22) (v := ?_) (a' := ?_) #[O,O,O,O,X,O,X,X,X,X,X,X,X,X,X,X,X,X,X,X,X,X,X,X,X] rfl rfl (zo HT_.out (by kernel_rfl)) (fun _ _ _ h => h) (Or.inl ⟨by rfl, ?_⟩) ?_ ?_
         rotate_left
         ·intro w'
          go_simp
          with_reducible rfl
         rotate_left
         ·simp only [Act.put, Ze, Zf, Zg, zl, zm]
          rfl
         refine zq (i := 6) (N := some 23) (v := ?_) (a' := ?_) #[O,O,O,O,X,O,O,X,X,X,X,X,X,X,X,X,X,X,X,X,X,X,X,X,X] rfl rfl (zo HT_.out (by kernel_rfl)) (fun _ _ _ h => h) (Or.inl ⟨by rfl, ?_⟩) ?_ ?_
         rotate_left
         ·intro w'
          go_simp
          with_reducible rfl
         rotate_left
         ·simp only [Act.put, Ze, Zf, Zg, zl, zm]
          rfl
         refine zq (i := 7) (N := some 24) (v := ?_) (a' := ?_) #[O,O,O,O,X,O,O,O,X,X,X,X,X,X,X,X,X,X,X,X,X,X,X,X,X] rfl rfl (zo HT_.out (by kernel_rfl)) (fun _ _ _ h => h) (Or.inl ⟨by rfl, ?_⟩) ?_ ?_
         rotate_left
         ·intro w'
          go_simp
          with_reducible rfl
         rotate_left
         ·simp only [Act.put, Ze, Zf, Zg, zl, zm]
          rfl
         refine zq (i := 8) (N := some 25) (v := ?_) (a' := ?_) #[O,O,O,O,X,O,O,O,O,X,X,X,X,X,X,X,X,X,X,X,X,X,X,X,X] rfl rfl (zo HT_.out (by kernel_rfl)) (fun _ _ _ h => h) (Or.inl ⟨by rfl, ?_⟩) ?_ ?_
         rotate_left
         ·intro w'
          go_simp
          with_reducible rfl
         rotate_left
         ·simp only [Act.put, Ze, Zf, Zg, zl, zm]
          rfl
         refine take_ (i := 4) (N := some 21) (v := ?_) (a' := ?_) #[O,O,O,O,O,O,O,O,O,X,X,X,X,X,X,X,X,X,X,X,X,X,X,X,X] rfl rfl (zQ HT_.out HW_.out (by kernel_rfl)) (fun _ _ _ h => h) (Or.inl ⟨by rfl, ?_⟩) hHeld ?_ ?_
         rotate_left
         ·rintro w' ⟨s0, s1, s2, s3, s4, s5, s6, s7, s8, s9, s10, s11, s12, s13, s14, s15⟩
          go_simp
          with_reducible rfl
         rotate_left
         ·simp only [Act.put, Ze, Zf, Zg, zl, zm]
          rfl
         refine take_ (i := 9) (N := some 26) (v := ?_) (a' := ?_) #[O,O,O,O,O,O,O,O,O,O,X,X,X,X,X,X,X,X,X,X,X,X,X,X,X] rfl rfl (zQ HT_.out HW_.out (by kernel_rfl)) (fun _ _ _ h => h) (Or.inl ⟨by rfl, ?_⟩) hHeld ?_ ?_
         rotate_left
         ·rintro w' ⟨s0, s1, s2, s3, s4, s5, s6, s7, s8, s9, s10, s11, s12, s13, s14, s15⟩
          go_simp
          with_reducible rfl
         rotate_left
         ·simp only [Act.put, Ze, Zf, Zg, zl, zm]
          rfl
         refine zq (i := 10) (N := some 27) (v := ?_) (a' := ?_) #[O,O,O,O,O,O,O,O,O,O,O,X,X,X,X,X,X,X,X,X,X,X,X,X,X] rfl rfl (zo HT_.out (by kernel_rfl)) (fun _ _ _ h => h) (Or.inl ⟨by rfl, ?_⟩) ?_ ?_
         rotate_left
         ·intro w'
          go_simp
          with_reducible rfl
         rotate_left
         ·simp only [Act.put, Ze, Zf, Zg, zl, zm]
          rfl
         refine zq (i := 11) (N := some 28) (v := ?_) (a' := ?_) #[O,O,O,O,O,O,O,O,O,O,O,O,X,X,X,X,X,X,X,X,X,X,X,X,X] rfl rfl (zo HT_.out (by kernel_rfl)) (fun _ _ _ h => h) (Or.inl ⟨by rfl, ?_⟩) ?_ ?_
         rotate_left
         ·intro w'
          go_simp
          with_reducible rfl
         rotate_left
         ·simp only [Act.put, Ze, Zf, Zg, zl, zm]
          rfl
         refine zq (i := 12) (N := some 29) (v := ?_) (a' := ?_) #[O,O,O,O,O,O,O,O,O,O,O,O,O,X,X,X,X,X,X,X,X,X,X,X,X] rfl rfl (zo HT_.out (by kernel_rfl)) (fun _ _ _ h => h) (Or.inl ⟨by rfl, ?_⟩) ?_ ?_
         rotate_left
         ·intro w'
          go_simp
          with_reducible rfl
         rotate_left
         ·simp only [Act.put, Ze, Zf, Zg, zl, zm]
          rfl
         refine zq (i := 13) (N := some 30) (v := ?_) (a' := ?_) #[O,O,O,O,O,O,O,O,O,O,O,O,O,O,X,X,X,X,X,X,X,X,X,X,X] rfl rfl (zo HT_.out (by kernel_rfl)) (fun _ _ _ h => h) (Or.inl ⟨by rfl, ?_⟩) ?_ ?_
         rotate_left
         ·intro w'
          go_simp
          with_reducible rfl
         rotate_left
         ·simp only [Act.put, Ze, Zf, Zg, zl, zm]
          rfl
         refine zq (i := 14) (N := some 31) (v := ?_) (a' := ?_) #[O,O,O,O,O,O,O,O,O,O,O,O,O,O,O,X,X,X,X,X,X,X,X,X,X] rfl rfl (zo HT_.out (by kernel_rfl)) (fun _ _ _ h => h) (Or.inl ⟨by rfl, ?_⟩) ?_ ?_
         rotate_left
         ·intro w'
          go_simp
          with_reducible rfl
         rotate_left
         ·simp only [Act.put, Ze, Zf, Zg, zl, zm]
          rfl
         refine zq (i := 15) (N := some 32) (v := ?_) (a' := ?_) #[O,O,O,O,O,O,O,O,O,O,O,O,O,O,O,O,X,X,X,X,X,X,X,X,X] rfl rfl (zo HT_.out (by kernel_rfl)) (fun _ _ _ h => h) (Or.inl ⟨by rfl, ?_⟩) ?_ ?_
         rotate_left
         ·intro w'
          go_simp
          with_reducible rfl
         rotate_left
         ·simp only [Act.put, Ze, Zf, Zg, zl, zm]
          rfl
         refine zq (i := 17) (N := some 34) (v := ?_) (a' := ?_) #[O,O,O,O,O,O,O,O,O,O,O,O,O,O,O,O,X,O,X,X,X,X,X,X,X] rfl rfl (zo HT_.out (by kernel_rfl)) (fun _ _ _ h => h) (Or.inl ⟨by rfl, ?_⟩) ?_ ?_
         rotate_left
         ·intro w'
          go_simp
          with_reducible rfl
         rotate_left
         ·simp only [Act.put, Ze, Zf, Zg, zl, zm]
          rfl
         refine zq (i := 18) (N := some 35) (v := ?_) (a' := ?_) #[O,O,O,O,O,O,O,O,O,O,O,O,O,O,O,O,X,O,O,X,X,X,X,X,X] rfl rfl (zo HT_.out (by kernel_rfl)) (fun _ _ _ h => h) (Or.inl ⟨by rfl, ?_⟩) ?_ ?_
         rotate_left
         ·intro w'
          go_simp
          with_reducible rfl
         rotate_left
         ·simp only [Act.put, Ze, Zf, Zg, zl, zm]
          rfl
         refine zq (i := 19) (N := some 36) (v := ?_) (a' := ?_) #[O,O,O,O,O,O,O,O,O,O,O,O,O,O,O,O,X,O,O,O,X,X,X,X,X] rfl rfl (zo HT_.out (by kernel_rfl)) (fun _ _ _ h => h) (Or.inl ⟨by rfl, ?_⟩) ?_ ?_
         rotate_left
         ·intro w'
          go_simp
          with_reducible rfl
         rotate_left
         ·simp only [Act.put, Ze, Zf, Zg, zl, zm]
          rfl
         refine zq (i := 20) (N := some 37) (v := ?_) (a' := ?_) #[O,O,O,O,O,O,O,O,O,O,O,O,O,O,O,O,X,O,O,O,O,X,X,X,X] rfl rfl (zo HT_.out (by kernel_rfl)) (fun _ _ _ h => h) (Or.inl ⟨by rfl, ?_⟩) ?_ ?_
         rotate_left
         ·intro w'
          go_simp
          with_reducible rfl
         rotate_left
         ·simp only [Act.put, Ze, Zf, Zg, zl, zm]
          rfl
         refine take_ (i := 16) (N := some 33) (v := ?_) (a' := ?_) #[O,O,O,O,O,O,O,O,O,O,O,O,O,O,O,O,O,O,O,O,O,X,X,X,X] rfl rfl (zQ HT_.out HW_.out (by kernel_rfl)) (fun _ _ _ h => h) (Or.inl ⟨by rfl, ?_⟩) hHeld ?_ ?_
         rotate_left
         ·rintro w' ⟨s0, s1, s2, s3, s4, s5, s6, s7, s8, s9, s10, s11, s12, s13, s14, s15⟩
          go_simp
          with_reducible rfl
         rotate_left
         ·simp only [Act.put, Ze, Zf, Zg, zl, zm]
          rfl
         refine take_ (i := 21) (N := some 38) (v := ?_) (a' := ?_) #[O,O,O,O,O,O,O,O,O,O,O,O,O,O,O,O,O,O,O,O,O,O,X,X,X] rfl rfl (zQ HT_.out HW_.out (by kernel_rfl)) (fun _ _ _ h => h) (Or.inl ⟨by rfl, ?_⟩) hHeld ?_ ?_
         rotate_left
         ·rintro w' ⟨s0, s1, s2, s3, s4, s5, s6, s7, s8, s9, s10, s11, s12, s13, s14, s15⟩
          go_simp
          with_reducible rfl
         rotate_left
         ·simp only [Act.put, Ze, Zf, Zg, zl, zm]
          rfl
         refine yO (i := 22) (N := some 39) #[O,O,O,O,O,O,O,O,O,O,O,O,O,O,O,O,O,O,O,O,O,O,O,X,X] rfl rfl (yo HT_.out (by kernel_rfl)) (by decide) (fun K hK => ?_)
         refine yq Tryz.func83 (by kernel_rfl) rfl #[.agg #[.int .i64 ((zt l0 x5_1).f1.f0), .int .i64 ((zt l0 x5_1).f1.f1), .slice A735_3 ((zt l0 x5_1).f1.f2).length c735_3], .agg #[.int .i64 ((zt l1 x5_1).f1.f0), .int .i64 ((zt l1 x5_1).f1.f1), .slice A736_3 ((zt l1 x5_1).f1.f2).length c736_3]] (by rfl) rfl rfl (by (try simp only [Zh, List.map_cons, List.map_nil]); first | done | rfl | (simp only [List.length_drop, List.length_take]; rfl)) ?_
         with_reducible refine (yu.calls k1 ((zt l0 x5_1).f1.f0) ((zt l0 x5_1).f1.f1) _ _ ((zt l0 x5_1).f1.f2) ((zt l1 x5_1).f1.f0) ((zt l1 x5_1).f1.f1) _ _ ((zt l1 x5_1).f1.f2) true _ ?side1 ?side2 ?side3 ?side4 A8.out).mono ?_
         (case side1 => repeat (first | exact (Kd.C_below HR737_3.out HB.out) | (with_reducible refine Kd.C_alloc ?_ _) | (with_reducible refine Kd.C_drewN ?_ _) | (with_reducible refine Kd.C_drew ?_)))
         (case side2 => exact HC737_3.out)
         (case side3 => repeat (first | exact (Kd.C_below HR738_3.out HB.out) | (with_reducible refine Kd.C_alloc ?_ _) | (with_reducible refine Kd.C_drewN ?_ _) | (with_reducible refine Kd.C_drew ?_)))
         (case side4 => exact HC738_3.out)
         rintro e w11 ⟨rfl, hb⟩
         refine ⟨_, rfl, ?_⟩
         have n0_ := zc.mk (zs (by repeat (first | (with_reducible first | exact HB.out | apply zf | apply zd | apply ze) | exact HB.out)) hb)
         clear HB
         have HB := n0_
         clear n0_
         (try clear hb)
         (try clear hb2)
         (try clear hk)
         (try clear hi)
         refine hK.out _ _ ⟨((HB.out.cell (Zj w _ hw735_0)).trans hw735_0), ((HB.out.cell (Zj w _ hw735_1)).trans hw735_1), ((HB.out.cell (Zj w _ hw735_2)).trans hw735_2), ((HB.out.cell (Zj w _ hw735_3)).trans hw735_3), ((HB.out.cell (Zj w _ hw736_0)).trans hw736_0), ((HB.out.cell (Zj w _ hw736_1)).trans hw736_1), ((HB.out.cell (Zj w _ hw736_2)).trans hw736_2), ((HB.out.cell (Zj w _ hw736_3)).trans hw736_3), ((HB.out.cell (Zj w _ hw737_0)).trans hw737_0), ((HB.out.cell (Zj w _ hw737_1)).trans hw737_1), ((HB.out.cell (Zj w _ hw737_2)).trans hw737_2), ((HB.out.cell (Zj w _ hw737_3)).trans hw737_3), ((HB.out.cell (Zj w _ hw738_0)).trans hw738_0), ((HB.out.cell (Zj w _ hw738_1)).trans hw738_1), ((HB.out.cell (Zj w _ hw738_2)).trans hw738_2), ((HB.out.cell (Zj w _ hw738_3)).trans hw738_3)⟩ (fun hHeld => ?_)
         clear hK K
         refine yF (a' := ?_) ?_ ?_
         rotate_left
         ·show Act.put _ (some 39) _ = _
          simp only [Act.put, Ze, Zf, Zg, zl, zm]
          rfl
         refine zq (i := 23) (N := some 40) (v := ?_) (a' := ?_) #[O,O,O,O,O,O,O,O,O,O,O,O,O,O,O,O,O,O,O,O,O,O,O,O,X] rfl rfl (zo HT_.out (by kernel_rfl)) (fun _ _ _ h => h) (Or.inl ⟨by rfl, ?_⟩) ?_ ?_
         rotate_left
         ·intro w'
          go_simp
          with_reducible rfl
         rotate_left
         ·simp only [Act.put, Ze, Zf, Zg, zl, zm]
          rfl
         refine zq (i := 24) (N := some 41) (v := ?_) (a' := ?_) #[O,O,O,O,O,O,O,O,O,O,O,O,O,O,O,O,O,O,O,O,O,O,O,O,O] rfl rfl (zo HT_.out (by kernel_rfl)) (fun _ _ _ h => h) (Or.inl ⟨by rfl, ?_⟩) ?_ ?_
         rotate_left
         ·intro w'
          go_simp
          with_reducible rfl
         rotate_left
         ·simp only [Act.put, Ze, Zf, Zg, zl, zm]
          rfl
         refine yZ (yE HT_.out (by kernel_rfl)) ?_
         try go_wp2
         go_roundg k1
         case measure => have := HK1.out; omega
         case rel => exact ⟨(wrap64 (x5_1 + 1)), (by first | rfl | (simp; done) | (simp [*]; done)), H', ⟨by have := HK1.out; omega⟩, ⟨by repeat (first | (with_reducible first | exact HB.out | apply zf | apply zd | apply ze) | exact HB.out)⟩⟩
        ·replace c9 := Zk.mpr c9
         subst c9
         have H1 : (some false) = some r := by rw [if_neg (show ¬ (false = true) by decide)] at H; exact H
         clear H
         have H := H1
         clear H1
         obtain rfl := Option.some.inj H
         try go_wp2
         have n0_ := zc.mk (ze HB.out)
         clear HB
         have HB := n0_
         clear n0_
         have p735 : 0 ≤ (x5_1 : Int) := of_decide_eq_true (by first | (with_reducible assumption) | assumption)
         have q735 : x5_1 < (l0.length : Int) := of_decide_eq_true (by first | (with_reducible assumption) | assumption)
         obtain ⟨ad735, A735_3, c735_3, e735, hx735_0, hx735_1, hx735_2, hx735_3, hl735_3, hi735_3⟩ := xa HR0.out x5_1 p735 q735
         have hw735_3 := hx735_3
         have hw735_2 := hx735_2
         have hw735_1 := hx735_1
         have hw735_0 := hx735_0
         cases e735
         replace hx735_0 := (HB.out.cell (Zj w _ hx735_0)).trans hx735_0
         replace hx735_1 := (HB.out.cell (Zj w _ hx735_1)).trans hx735_1
         replace hx735_2 := (HB.out.cell (Zj w _ hx735_2)).trans hx735_2
         replace hx735_3 := (HB.out.cell (Zj w _ hx735_3)).trans hx735_3
         have HR735_3 := zc.mk hi735_3
         have HC735_3 := zc.mk hl735_3
         clear hi735_3 hl735_3
         replace p735 := eq_true p735
         replace q735 := eq_true q735
         have p736 : 0 ≤ (x5_1 : Int) := of_decide_eq_true (by first | (with_reducible assumption) | assumption)
         have q736 : x5_1 < (l1.length : Int) := of_decide_eq_true (by first | (with_reducible assumption) | assumption)
         obtain ⟨ad736, A736_3, c736_3, e736, hx736_0, hx736_1, hx736_2, hx736_3, hl736_3, hi736_3⟩ := xa HR1.out x5_1 p736 q736
         have hw736_3 := hx736_3
         have hw736_2 := hx736_2
         have hw736_1 := hx736_1
         have hw736_0 := hx736_0
         cases e736
         replace hx736_0 := (HB.out.cell (Zj w _ hx736_0)).trans hx736_0
         replace hx736_1 := (HB.out.cell (Zj w _ hx736_1)).trans hx736_1
         replace hx736_2 := (HB.out.cell (Zj w _ hx736_2)).trans hx736_2
         replace hx736_3 := (HB.out.cell (Zj w _ hx736_3)).trans hx736_3
         have HR736_3 := zc.mk hi736_3
         have HC736_3 := zc.mk hl736_3
         clear hi736_3 hl736_3
         replace p736 := eq_true p736
         replace q736 := eq_true q736
         have p737 : 0 ≤ (x5_1 : Int) := of_decide_eq_true (by first | (with_reducible assumption) | assumption)
         have q737 : x5_1 < (l0.length : Int) := of_decide_eq_true (by first | (with_reducible assumption) | assumption)
         obtain ⟨ad737, A737_3, c737_3, e737, hx737_0, hx737_1, hx737_2, hx737_3, hl737_3, hi737_3⟩ := xa HR0.out x5_1 p737 q737
         have hw737_3 := hx737_3
         have hw737_2 := hx737_2
         have hw737_1 := hx737_1
         have hw737_0 := hx737_0
         obtain rfl : ad735 = ad737 := (by injection e737)
         replace hx737_0 := (HB.out.cell (Zj w _ hx737_0)).trans hx737_0
         replace hx737_1 := (HB.out.cell (Zj w _ hx737_1)).trans hx737_1
         replace hx737_2 := (HB.out.cell (Zj w _ hx737_2)).trans hx737_2
         replace hx737_3 := (HB.out.cell (Zj w _ hx737_3)).trans hx737_3
         have HR737_3 := zc.mk hi737_3
         have HC737_3 := zc.mk hl737_3
         clear hi737_3 hl737_3
         replace p737 := eq_true p737
         replace q737 := eq_true q737
         have ea_ := Option.some.inj (hx735_3.symm.trans hx737_3)
         injection ea_ with ea_ en_ ec_
         subst ea_
         subst ec_
         clear en_
         have p738 : 0 ≤ (x5_1 : Int) := of_decide_eq_true (by first | (with_reducible assumption) | assumption)
         have q738 : x5_1 < (l1.length : Int) := of_decide_eq_true (by first | (with_reducible assumption) | assumption)
         obtain ⟨ad738, A738_3, c738_3, e738, hx738_0, hx738_1, hx738_2, hx738_3, hl738_3, hi738_3⟩ := xa HR1.out x5_1 p738 q738
         have hw738_3 := hx738_3
         have hw738_2 := hx738_2
         have hw738_1 := hx738_1
         have hw738_0 := hx738_0
         obtain rfl : ad736 = ad738 := (by injection e738)
         replace hx738_0 := (HB.out.cell (Zj w _ hx738_0)).trans hx738_0
         replace hx738_1 := (HB.out.cell (Zj w _ hx738_1)).trans hx738_1
         replace hx738_2 := (HB.out.cell (Zj w _ hx738_2)).trans hx738_2
         replace hx738_3 := (HB.out.cell (Zj w _ hx738_3)).trans hx738_3
         have HR738_3 := zc.mk hi738_3
         have HC738_3 := zc.mk hl738_3
         clear hi738_3 hl738_3
         replace p738 := eq_true p738
         replace q738 := eq_true q738
         have ea_ := Option.some.inj (hx736_3.symm.trans hx738_3)
         injection ea_ with ea_ en_ ec_
         subst ea_
         subst ec_
         clear en_
         refine yK (n := 25) (S := fun w' => w'.cell? (ad735.add ((x5_1).toNat * 4)) = some (.string ((zt l0 x5_1).f0)) ∧ w'.cell? ⟨(ad735.add ((x5_1).toNat * 4)).block, (ad735.add ((x5_1).toNat * 4)).off + 1, none⟩ = some (.int .i64 ((zt l0 x5_1).f1.f0)) ∧ w'.cell? ⟨(ad735.add ((x5_1).toNat * 4)).block, (ad735.add ((x5_1).toNat * 4)).off + 2, none⟩ = some (.int .i64 ((zt l0 x5_1).f1.f1)) ∧ w'.cell? ⟨(ad735.add ((x5_1).toNat * 4)).block, (ad735.add ((x5_1).toNat * 4)).off + 3, none⟩ = some (.slice A735_3 ((zt l0 x5_1).f1.f2).length c735_3) ∧ w'.cell? (ad736.add ((x5_1).toNat * 4)) = some (.string ((zt l1 x5_1).f0)) ∧ w'.cell? ⟨(ad736.add ((x5_1).toNat * 4)).block, (ad736.add ((x5_1).toNat * 4)).off + 1, none⟩ = some (.int .i64 ((zt l1 x5_1).f1.f0)) ∧ w'.cell? ⟨(ad736.add ((x5_1).toNat * 4)).block, (ad736.add ((x5_1).toNat * 4)).off + 2, none⟩ = some (.int .i64 ((zt l1 x5_1).f1.f1)) ∧ w'.cell? ⟨(ad736.add ((x5_1).toNat * 4)).block, (ad736.add ((x5_1).toNat * 4)).off + 3, none⟩ = some (.slice A736_3 ((zt l1 x5_1).f1.f2).length c736_3) ∧ w'.cell? (ad735.add ((x5_1).toNat * 4)) = some (.string ((zt l0 x5_1).f0)) ∧ w'.cell? ⟨(ad735.add ((x5_1).toNat * 4)).block, (ad735.add ((x5_1).toNat * 4)).off + 1, none⟩ = some (.int .i64 ((zt l0 x5_1).f1.f0)) ∧ w'.cell? ⟨(ad735.add ((x5_1).toNat * 4)).block, (ad735.add ((x5_1).toNat * 4)).off + 2, none⟩ = some (.int .i64 ((zt l0 x5_1).f1.f1)) ∧ w'.cell? ⟨(ad735.add ((x5_1).toNat * 4)).block, (ad735.add ((x5_1).toNat * 4)).off + 3, none⟩ = some (.slice A735_3 ((zt l0 x5_1).f1.f2).length c735_3) ∧ w'.cell? (ad736.add ((x5_1).toNat * 4)) = some (.string ((zt l1 x5_1).f0)) ∧ w'.cell? ⟨(ad736.add ((x5_1).toNat * 4)).block, (ad736.add ((x5_1).toNat * 4)).off + 1, none⟩ = some (.int .i64 ((zt l1 x5_1).f1.f0)) ∧ w'.cell? ⟨(ad736.add ((x5_1).toNat * 4)).block, (ad736.add ((x5_1).toNat * 4)).off + 2, none⟩ = some (.int .i64 ((zt l1 x5_1).f1.f1)) ∧ w'.cell? ⟨(ad736.add ((x5_1).toNat * 4)).block, (ad736.add ((x5_1).toNat * 4)).off + 3, none⟩ = some (.slice A736_3 ((zt l1 x5_1).f1.f2).length c736_3)) (ds := []) #[X,X,X,X,X,X,X,X,X,X,X,X,X,X,X,X,X,X,X,X,X,X,X,X,X] (by kernel_rfl) rfl rfl ⟨((HB.out.cell (Zj w _ hw735_0)).trans hw735_0), ((HB.out.cell (Zj w _ hw735_1)).trans hw735_1), ((HB.out.cell (Zj w _ hw735_2)).trans hw735_2), ((HB.out.cell (Zj w _ hw735_3)).trans hw735_3), ((HB.out.cell (Zj w _ hw736_0)).trans hw736_0), ((HB.out.cell (Zj w _ hw736_1)).trans hw736_1), ((HB.out.cell (Zj w _ hw736_2)).trans hw736_2), ((HB.out.cell (Zj w _ hw736_3)).trans hw736_3), ((HB.out.cell (Zj w _ hw737_0)).trans hw737_0), ((HB.out.cell (Zj w _ hw737_1)).trans hw737_1), ((HB.out.cell (Zj w _ hw737_2)).trans hw737_2), ((HB.out.cell (Zj w _ hw737_3)).trans hw737_3), ((HB.out.cell (Zj w _ hw738_0)).trans hw738_0), ((HB.out.cell (Zj w _ hw738_1)).trans hw738_1), ((HB.out.cell (Zj w _ hw738_2)).trans hw738_2), ((HB.out.cell (Zj w _ hw738_3)).trans hw738_3)⟩ (fun hHeld => ?_); refine ym zD.tab6 zD.bits6 (fun HT_ HW_ => ?_)
         generalize wr.drew = w12 at HB HR735_3 HR736_3 HR737_3 HR738_3 hx735_0 hx735_1 hx735_2 hx735_3 hx736_0 hx736_1 hx736_2 hx736_3 hx737_0 hx737_1 hx737_2 hx737_3 hx738_0 hx738_1 hx738_2 hx738_3 hHeld ⊢
         refine zq (i := 0) (N := some 17) (v := ?_) (a' := ?_) #[O,X,X,X,X,X,X,X,X,X,X,X,X,X,X,X,X,X,X,X,X,X,X,X,X] rfl rfl (zo HT_.out (by kernel_rfl)) (fun _ _ _ h => h) (Or.inl ⟨by rfl, ?_⟩) ?_ ?_
         rotate_left
         ·intro w'
          go_simp
          with_reducible rfl
         rotate_left
         ·simp only [Act.put, Ze, Zf, Zg, zl, zm]
          rfl
         refine zq (i := 1) (N := some 18) (v := ?_) (a' := ?_) #[O,O,X,X,X,X,X,X,X,X,X,X,X,X,X,X,X,X,X,X,X,X,X,X,X] rfl rfl (zo HT_.out (by kernel_rfl)) (fun _ _ _ h => h) (Or.inl ⟨by rfl, ?_⟩) ?_ ?_
         rotate_left
         ·intro w'
          go_simp
          with_reducible rfl
         rotate_left
         ·simp only [Act.put, Ze, Zf, Zg, zl, zm]
          rfl
         refine zq (i := 2) (N := some 19) (v := ?_) (a' := ?_) #[O,O,O,X,X,X,X,X,X,X,X,X,X,X,X,X,X,X,X,X,X,X,X,X,X] rfl rfl (zo HT_.out (by kernel_rfl)) (fun _ _ _ h => h) (Or.inl ⟨by rfl, ?_⟩) ?_ ?_
         rotate_left
         ·intro w'
          go_simp
          with_reducible rfl
         rotate_left
         ·simp only [Act.put, Ze, Zf, Zg, zl, zm]
          rfl
         refine zq (i := 3) (N := some 20) (v := ?_) (a' := ?_) #[O,O,O,O,X,X,X,X,X,X,X,X,X,X,X,X,X,X,X,X,X,X,X,X,X] rfl rfl (zo HT_.out (by kernel_rfl)) (fun _ _ _ h => h) (Or.inl ⟨by rfl, ?_⟩) ?_ ?_
         rotate_left
         ·intro w'
          go_simp
          with_reducible rfl
         rotate_left
         ·simp only [Act.put, Ze, Zf, Zg, zl, zm]
          rfl
         refine zq (i := 5) (N := some 22) (v := ?_) (a' := ?_) #[O,O,O,O,X,O,X,X,X,X,X,X,X,X,X,X,X,X,X,X,X,X,X,X,X] rfl rfl (zo HT_.out (by kernel_rfl)) (fun _ _ _ h => h) (Or.inl ⟨by rfl, ?_⟩) ?_ ?_
         rotate_left
         ·intro w'
          go_simp
          with_reducible rfl
         rotate_left
         ·simp only [Act.put, Ze, Zf, Zg, zl, zm]
          rfl
         refine zq (i := 6) (N := some 23) (v := ?_) (a' := ?_) #[O,O,O,O,X,O,O,X,X,X,X,X,X,X,X,X,X,X,X,X,X,X,X,X,X] rfl rfl (zo HT_.out (by kernel_rfl)) (fun _ _ _ h => h) (Or.inl ⟨by rfl, ?_⟩) ?_ ?_
         rotate_left
         ·intro w'
          go_simp
          with_reducible rfl
         rotate_left
         ·simp only [Act.put, Ze, Zf, Zg, zl, zm]
          rfl
         refine zq (i := 7) (N := some 24) (v := ?_) (a' := ?_) #[O,O,O,O,X,O,O,O,X,X,X,X,X,X,X,X,X,X,X,X,X,X,X,X,X] rfl rfl (zo HT_.out (by kernel_rfl)) (fun _ _ _ h => h) (Or.inl ⟨by rfl, ?_⟩) ?_ ?_
         rotate_left
         ·intro w'
          go_simp
          with_reducible rfl
         rotate_left
         ·simp only [Act.put, Ze, Zf, Zg, zl, zm]
          rfl
         refine zq (i := 8) (N := some 25) (v := ?_) (a' := ?_) #[O,O,O,O,X,O,O,O,O,X,X,X,X,X,X,X,X,X,X,X,X,X,X,X,X] rfl rfl (zo HT_.out (by kernel_rfl)) (fun _ _ _ h => h) (Or.inl ⟨by rfl, ?_⟩) ?_ ?_
         rotate_left
         ·intro w'
          go_simp
          with_reducible rfl
         rotate_left
         ·simp only [Act.put, Ze, Zf, Zg, zl, zm]
          rfl
         refine take_ (i := 4) (N := some 21) (v := ?_) (a' := ?_) #[O,O,O,O,O,O,O,O,O,X,X,X,X,X,X,X,X,X,X,X,X,X,X,X,X] rfl rfl (zQ HT_.out HW_.out (by kernel_rfl)) (fun _ _ _ h => h) (Or.inl ⟨by rfl, ?_⟩) hHeld ?_ ?_
         rotate_left
         ·rintro w' ⟨s0, s1, s2, s3, s4, s5, s6, s7, s8, s9, s10, s11, s12, s13, s14, s15⟩
          go_simp
          with_reducible rfl
         rotate_left
         ·simp only [Act.put, Ze, Zf, Zg, zl, zm]
          rfl
         refine take_ (i := 9) (N := some 26) (v := ?_) (a' := ?_) #[O,O,O,O,O,O,O,O,O,O,X,X,X,X,X,X,X,X,X,X,X,X,X,X,X] rfl rfl (zQ HT_.out HW_.out (by kernel_rfl)) (fun _ _ _ h => h) (Or.inl ⟨by rfl, ?_⟩) hHeld ?_ ?_
         rotate_left
         ·rintro w' ⟨s0, s1, s2, s3, s4, s5, s6, s7, s8, s9, s10, s11, s12, s13, s14, s15⟩
          go_simp
          with_reducible rfl
         rotate_left
         ·simp only [Act.put, Ze, Zf, Zg, zl, zm]
          rfl
         refine zq (i := 10) (N := some 27) (v := ?_) (a' := ?_) #[O,O,O,O,O,O,O,O,O,O,O,X,X,X,X,X,X,X,X,X,X,X,X,X,X] rfl rfl (zo HT_.out (by kernel_rfl)) (fun _ _ _ h => h) (Or.inl ⟨by rfl, ?_⟩) ?_ ?_
         rotate_left
         ·intro w'
          go_simp
          with_reducible rfl
         rotate_left
         ·simp only [Act.put, Ze, Zf, Zg, zl, zm]
          rfl
         refine zq (i := 11) (N := some 28) (v := ?_) (a' := ?_) #[O,O,O,O,O,O,O,O,O,O,O,O,X,X,X,X,X,X,X,X,X,X,X,X,X] rfl rfl (zo HT_.out (by kernel_rfl)) (fun _ _ _ h => h) (Or.inl ⟨by rfl, ?_⟩) ?_ ?_
         rotate_left
         ·intro w'
          go_simp
          with_reducible rfl
         rotate_left
         ·simp only [Act.put, Ze, Zf, Zg, zl, zm]
          rfl
         refine zq (i := 12) (N := some 29) (v := ?_) (a' := ?_) #[O,O,O,O,O,O,O,O,O,O,O,O,O,X,X,X,X,X,X,X,X,X,X,X,X] rfl rfl (zo HT_.out (by kernel_rfl)) (fun _ _ _ h => h) (Or.inl ⟨by rfl, ?_⟩) ?_ ?_
         rotate_left
         ·intro w'
          go_simp
          with_reducible rfl
         rotate_left
         ·simp only [Act.put, Ze, Zf, Zg, zl, zm]
          rfl
         refine zq (i := 13) (N := some 30) (v := ?_) (a' := ?_) #[O,O,O,O,O,O,O,O,O,O,O,O,O,O,X,X,X,X,X,X,X,X,X,X,X] rfl rfl (zo HT_.out (by kernel_rfl)) (fun _ _ _ h => h) (Or.inl ⟨by rfl, ?_⟩) ?_ ?_
         rotate_left
         ·intro w'
          go_simp
          with_reducible rfl
         rotate_left
         ·simp only [Act.put, Ze, Zf, Zg, zl, zm]
          rfl
         refine zq (i := 14) (N := some 31) (v := ?_) (a' := ?_) #[O,O,O,O,O,O,O,O,O,O,O,O,O,O,O,X,X,X,X,X,X,X,X,X,X] rfl rfl (zo HT_.out (by kernel_rfl)) (fun _ _ _ h => h) (Or.inl ⟨by rfl, ?_⟩) ?_ ?_
         rotate_left
         ·intro w'
          go_simp
          with_reducible rfl
         rotate_left
         ·simp only [Act.put, Ze, Zf, Zg, zl, zm]
          rfl
         refine zq (i := 15) (N := some 32) (v := ?_) (a' := ?_) #[O,O,O,O,O,O,O,O,O,O,O,O,O,O,O,O,X,X,X,X,X,X,X,X,X] rfl rfl (zo HT_.out (by kernel_rfl)) (fun _ _ _ h => h) (Or.inl ⟨by rfl, ?_⟩) ?_ ?_
         rotate_left
         ·intro w'
          go_simp
          with_reducible rfl
         rotate_left
         ·simp only [Act.put, Ze, Zf, Zg, zl, zm]
          rfl
         refine zq (i := 17) (N := some 34) (v := ?_) (a' := ?_) #[O,O,O,O,O,O,O,O,O,O,O,O,O,O,O,O,X,O,X,X,X,X,X,X,X] rfl rfl (zo HT_.out (by kernel_rfl)) (fun _ _ _ h => h) (Or.inl ⟨by rfl, ?_⟩) ?_ ?_
         rotate_left
         ·intro w'
          go_simp
          with_reducible rfl
         rotate_left
         ·simp only [Act.put, Ze, Zf, Zg, zl, zm]
          rfl
         refine zq (i := 18) (N := some 35) (v := ?_) (a' := ?_) #[O,O,O,O,O,O,O,O,O,O,O,O,O,O,O,O,X,O,O,X,X,X,X,X,X] rfl rfl (zo HT_.out (by kernel_rfl)) (fun _ _ _ h => h) (Or.inl ⟨by rfl, ?_⟩) ?_ ?_
         rotate_left
         ·intro w'
          go_simp
          with_reducible rfl
         rotate_left
         ·simp only [Act.put, Ze, Zf, Zg, zl, zm]
          rfl
         refine zq (i := 19) (N := some 36) (v := ?_) (a' := ?_) #[O,O,O,O,O,O,O,O,O,O,O,O,O,O,O,O,X,O,O,O,X,X,X,X,X] rfl rfl (zo HT_.out (by kernel_rfl)) (fun _ _ _ h => h) (Or.inl ⟨by rfl, ?_⟩) ?_ ?_
         rotate_left
         ·intro w'
          go_simp
          with_reducible rfl
         rotate_left
         ·simp only [Act.put, Ze, Zf, Zg, zl, zm]
          rfl
         refine zq (i := 20) (N := some 37) (v := ?_) (a' := ?_) #[O,O,O,O,O,O,O,O,O,O,O,O,O,O,O,O,X,O,O,O,O,X,X,X,X] rfl rfl (zo HT_.out (by kernel_rfl)) (fun _ _ _ h => h) (Or.inl ⟨by rfl, ?_⟩) ?_ ?_
         rotate_left
         ·intro w'
          go_simp
          with_reducible rfl
         rotate_left
         ·simp only [Act.put, Ze, Zf, Zg, zl, zm]
          rfl
         refine take_ (i := 16) (N := some 33) (v := ?_) (a' := ?_) #[O,O,O,O,O,O,O,O,O,O,O,O,O,O,O,O,O,O,O,O,O,X,X,X,X] rfl rfl (zQ HT_.out HW_.out (by kernel_rfl)) (fun _ _ _ h => h) (Or.inl ⟨by rfl, ?_⟩) hHeld ?_ ?_
         rotate_left
         ·rintro w' ⟨s0, s1, s2, s3, s4, s5, s6, s7, s8, s9, s10, s11, s12, s13, s14, s15⟩
          go_simp
          with_reducible rfl
         rotate_left
         ·simp only [Act.put, Ze, Zf, Zg, zl, zm]
          rfl
         refine take_ (i := 21) (N := some 38) (v := ?_) (a' := ?_) #[O,O,O,O,O,O,O,O,O,O,O,O,O,O,O,O,O,O,O,O,O,O,X,X,X] rfl rfl (zQ HT_.out HW_.out (by kernel_rfl)) (fun _ _ _ h => h) (Or.inl ⟨by rfl, ?_⟩) hHeld ?_ ?_
         rotate_left
         ·rintro w' ⟨s0, s1, s2, s3, s4, s5, s6, s7, s8, s9, s10, s11, s12, s13, s14, s15⟩
          go_simp
          with_reducible rfl
         rotate_left
         ·simp only [Act.put, Ze, Zf, Zg, zl, zm]
          rfl
         refine yO (i := 22) (N := some 39) #[O,O,O,O,O,O,O,O,O,O,O,O,O,O,O,O,O,O,O,O,O,O,O,X,X] rfl rfl (yo HT_.out (by kernel_rfl)) (by decide) (fun K hK => ?_)
         refine yq Tryz.func83 (by kernel_rfl) rfl #[.agg #[.int .i64 ((zt l0 x5_1).f1.f0), .int .i64 ((zt l0 x5_1).f1.f1), .slice A735_3 ((zt l0 x5_1).f1.f2).length c735_3], .agg #[.int .i64 ((zt l1 x5_1).f1.f0), .int .i64 ((zt l1 x5_1).f1.f1), .slice A736_3 ((zt l1 x5_1).f1.f2).length c736_3]] (by rfl) rfl rfl (by (try simp only [Zh, List.map_cons, List.map_nil]); first | done | rfl | (simp only [List.length_drop, List.length_take]; rfl)) ?_
         with_reducible refine (yu.calls k1 ((zt l0 x5_1).f1.f0) ((zt l0 x5_1).f1.f1) _ _ ((zt l0 x5_1).f1.f2) ((zt l1 x5_1).f1.f0) ((zt l1 x5_1).f1.f1) _ _ ((zt l1 x5_1).f1.f2) false _ ?side1 ?side2 ?side3 ?side4 A8.out).mono ?_
         (case side1 => repeat (first | exact (Kd.C_below HR737_3.out HB.out) | (with_reducible refine Kd.C_alloc ?_ _) | (with_reducible refine Kd.C_drewN ?_ _) | (with_reducible refine Kd.C_drew ?_)))
         (case side2 => exact HC737_3.out)
         (case side3 => repeat (first | exact (Kd.C_below HR738_3.out HB.out) | (with_reducible refine Kd.C_alloc ?_ _) | (with_reducible refine Kd.C_drewN ?_ _) | (with_reducible refine Kd.C_drew ?_)))
         (case side4 => exact HC738_3.out)
         rintro e w13 ⟨rfl, hb⟩
         refine ⟨_, rfl, ?_⟩
         have n0_ := zc.mk (zs (by repeat (first | (with_reducible first | exact HB.out | apply zf | apply zd | apply ze) | exact HB.out)) hb)
         clear HB
         have HB := n0_
         clear n0_
         (try clear hb)
         (try clear hb2)
         (try clear hk)
         (try clear hi)
         refine hK.out _ _ ⟨((HB.out.cell (Zj w _ hw735_0)).trans hw735_0), ((HB.out.cell (Zj w _ hw735_1)).trans hw735_1), ((HB.out.cell (Zj w _ hw735_2)).trans hw735_2), ((HB.out.cell (Zj w _ hw735_3)).trans hw735_3), ((HB.out.cell (Zj w _ hw736_0)).trans hw736_0), ((HB.out.cell (Zj w _ hw736_1)).trans hw736_1), ((HB.out.cell (Zj w _ hw736_2)).trans hw736_2), ((HB.out.cell (Zj w _ hw736_3)).trans hw736_3), ((HB.out.cell (Zj w _ hw737_0)).trans hw737_0), ((HB.out.cell (Zj w _ hw737_1)).trans hw737_1), ((HB.out.cell (Zj w _ hw737_2)).trans hw737_2), ((HB.out.cell (Zj w _ hw737_3)).trans hw737_3), ((HB.out.cell (Zj w _ hw738_0)).trans hw738_0), ((HB.out.cell (Zj w _ hw738_1)).trans hw738_1), ((HB.out.cell (Zj w _ hw738_2)).trans hw738_2), ((HB.out.cell (Zj w _ hw738_3)).trans hw738_3)⟩ (fun hHeld => ?_)
         clear hK K
         refine yF (a' := ?_) ?_ ?_
         rotate_left
         ·show Act.put _ (some 39) _ = _
          simp only [Act.put, Ze, Zf, Zg, zl, zm]
          rfl
         refine zq (i := 23) (N := some 40) (v := ?_) (a' := ?_) #[O,O,O,O,O,O,O,O,O,O,O,O,O,O,O,O,O,O,O,O,O,O,O,O,X] rfl rfl (zo HT_.out (by kernel_rfl)) (fun _ _ _ h => h) (Or.inl ⟨by rfl, ?_⟩) ?_ ?_
         rotate_left
         ·intro w'
          go_simp
          with_reducible rfl
         rotate_left
         ·simp only [Act.put, Ze, Zf, Zg, zl, zm]
          rfl
         refine zq (i := 24) (N := some 41) (v := ?_) (a' := ?_) #[O,O,O,O,O,O,O,O,O,O,O,O,O,O,O,O,O,O,O,O,O,O,O,O,O] rfl rfl (zo HT_.out (by kernel_rfl)) (fun _ _ _ h => h) (Or.inl ⟨by rfl, ?_⟩) ?_ ?_
         rotate_left
         ·intro w'
          go_simp
          with_reducible rfl
         rotate_left
         ·simp only [Act.put, Ze, Zf, Zg, zl, zm]
          rfl
         refine yZ (yE HT_.out (by kernel_rfl)) ?_
         try go_wp2
         go_ret
         exact ⟨by first | rfl | (simp [zu, zv] <;> rfl) | (simp [*, zu, zv] <;> rfl), by repeat (first | (with_reducible first | exact HB.out | apply zf | apply zd | apply ze) | exact HB.out)⟩
       ·rw [if_neg c7] at H
        have c7b0 : (((zt l0 x5_1).f0).toList == ((zt l1 x5_1).f0).toList) = false := beq_eq_false_iff_ne.mpr c7
        have c7b1 : (((zt l0 x5_1).f0).toList != ((zt l1 x5_1).f0).toList) = true := bne_iff_ne.mpr c7
        obtain rfl := Option.some.inj H
        try go_wp2
        have n0_ := zc.mk (ze HB.out)
        clear HB
        have HB := n0_
        clear n0_
        have p735 : 0 ≤ (x5_1 : Int) := of_decide_eq_true (by first | (with_reducible assumption) | assumption)
        have q735 : x5_1 < (l0.length : Int) := of_decide_eq_true (by first | (with_reducible assumption) | assumption)
        obtain ⟨ad735, A735_3, c735_3, e735, hx735_0, hx735_1, hx735_2, hx735_3, hl735_3, hi735_3⟩ := xa HR0.out x5_1 p735 q735
        have hw735_3 := hx735_3
        have hw735_2 := hx735_2
        have hw735_1 := hx735_1
        have hw735_0 := hx735_0
        cases e735
        replace hx735_0 := (HB.out.cell (Zj w _ hx735_0)).trans hx735_0
        replace hx735_1 := (HB.out.cell (Zj w _ hx735_1)).trans hx735_1
        replace hx735_2 := (HB.out.cell (Zj w _ hx735_2)).trans hx735_2
        replace hx735_3 := (HB.out.cell (Zj w _ hx735_3)).trans hx735_3
        have HR735_3 := zc.mk hi735_3
        have HC735_3 := zc.mk hl735_3
        clear hi735_3 hl735_3
        replace p735 := eq_true p735
        replace q735 := eq_true q735
        have p736 : 0 ≤ (x5_1 : Int) := of_decide_eq_true (by first | (with_reducible assumption) | assumption)
        have q736 : x5_1 < (l1.length : Int) := of_decide_eq_true (by first | (with_reducible assumption) | assumption)
        obtain ⟨ad736, A736_3, c736_3, e736, hx736_0, hx736_1, hx736_2, hx736_3, hl736_3, hi736_3⟩ := xa HR1.out x5_1 p736 q736
        have hw736_3 := hx736_3
        have hw736_2 := hx736_2
        have hw736_1 := hx736_1
        have hw736_0 := hx736_0
        cases e736
        replace hx736_0 := (HB.out.cell (Zj w _ hx736_0)).trans hx736_0
        replace hx736_1 := (HB.out.cell (Zj w _ hx736_1)).trans hx736_1
        replace hx736_2 := (HB.out.cell (Zj w _ hx736_2)).trans hx736_2
        replace hx736_3 := (HB.out.cell (Zj w _ hx736_3)).trans hx736_3
        have HR736_3 := zc.mk hi736_3
        have HC736_3 := zc.mk hl736_3
        clear hi736_3 hl736_3
        replace p736 := eq_true p736
        replace q736 := eq_true q736
        refine yK (n := 25) (S := fun w' => w'.cell? (ad735.add ((x5_1).toNat * 4)) = some (.string ((zt l0 x5_1).f0)) ∧ w'.cell? ⟨(ad735.add ((x5_1).toNat * 4)).block, (ad735.add ((x5_1).toNat * 4)).off + 1, none⟩ = some (.int .i64 ((zt l0 x5_1).f1.f0)) ∧ w'.cell? ⟨(ad735.add ((x5_1).toNat * 4)).block, (ad735.add ((x5_1).toNat * 4)).off + 2, none⟩ = some (.int .i64 ((zt l0 x5_1).f1.f1)) ∧ w'.cell? ⟨(ad735.add ((x5_1).toNat * 4)).block, (ad735.add ((x5_1).toNat * 4)).off + 3, none⟩ = some (.slice A735_3 ((zt l0 x5_1).f1.f2).length c735_3) ∧ w'.cell? (ad736.add ((x5_1).toNat * 4)) = some (.string ((zt l1 x5_1).f0)) ∧ w'.cell? ⟨(ad736.add ((x5_1).toNat * 4)).block, (ad736.add ((x5_1).toNat * 4)).off + 1, none⟩ = some (.int .i64 ((zt l1 x5_1).f1.f0)) ∧ w'.cell? ⟨(ad736.add ((x5_1).toNat * 4)).block, (ad736.add ((x5_1).toNat * 4)).off + 2, none⟩ = some (.int .i64 ((zt l1 x5_1).f1.f1)) ∧ w'.cell? ⟨(ad736.add ((x5_1).toNat * 4)).block, (ad736.add ((x5_1).toNat * 4)).off + 3, none⟩ = some (.slice A736_3 ((zt l1 x5_1).f1.f2).length c736_3)) (ds := []) #[X,X,X,X,X,X,X,X,X,X,X,X,X,X,X,X,X,X,X,X,X,X,X,X,X] (by kernel_rfl) rfl rfl ⟨((HB.out.cell (Zj w _ hw735_0)).trans hw735_0), ((HB.out.cell (Zj w _ hw735_1)).trans hw735_1), ((HB.out.cell (Zj w _ hw735_2)).trans hw735_2), ((HB.out.cell (Zj w _ hw735_3)).trans hw735_3), ((HB.out.cell (Zj w _ hw736_0)).trans hw736_0), ((HB.out.cell (Zj w _ hw736_1)).trans hw736_1), ((HB.out.cell (Zj w _ hw736_2)).trans hw736_2), ((HB.out.cell (Zj w _ hw736_3)).trans hw736_3)⟩ (fun hHeld => ?_); refine ym zD.tab6 zD.bits6 (fun HT_ HW_ => ?_)
        generalize wr.drew = w14 at HB HR735_3 HR736_3 hx735_0 hx735_1 hx735_2 hx735_3 hx736_0 hx736_1 hx736_2 hx736_3 hHeld ⊢
        refine zq (i := 0) (N := some 17) (v := ?_) (a' := ?_) #[O,X,X,X,X,X,X,X,X,X,X,X,X,X,X,X,X,X,X,X,X,X,X,X,X] rfl rfl (zo HT_.out (by kernel_rfl)) (fun _ _ _ h => h) (Or.inl ⟨by rfl, ?_⟩) ?_ ?_
        rotate_left
        ·intro w'
         go_simp
         with_reducible rfl
        rotate_left
        ·simp only [Act.put, Ze, Zf, Zg, zl, zm]
         rfl
        refine zq (i := 1) (N := some 18) (v := ?_) (a' := ?_) #[O,O,X,X,X,X,X,X,X,X,X,X,X,X,X,X,X,X,X,X,X,X,X,X,X] rfl rfl (zo HT_.out (by kernel_rfl)) (fun _ _ _ h => h) (Or.inl ⟨by rfl, ?_⟩) ?_ ?_
        rotate_left
        ·intro w'
         go_simp
         with_reducible rfl
        rotate_left
        ·simp only [Act.put, Ze, Zf, Zg, zl, zm]
         rfl
        refine zq (i := 2) (N := some 19) (v := ?_) (a' := ?_) #[O,O,O,X,X,X,X,X,X,X,X,X,X,X,X,X,X,X,X,X,X,X,X,X,X] rfl rfl (zo HT_.out (by kernel_rfl)) (fun _ _ _ h => h) (Or.inl ⟨by rfl, ?_⟩) ?_ ?_
        rotate_left
        ·intro w'
         go_simp
         with_reducible rfl
        rotate_left
        ·simp only [Act.put, Ze, Zf, Zg, zl, zm]
         rfl
        refine zq (i := 3) (N := some 20) (v := ?_) (a' := ?_) #[O,O,O,O,X,X,X,X,X,X,X,X,X,X,X,X,X,X,X,X,X,X,X,X,X] rfl rfl (zo HT_.out (by kernel_rfl)) (fun _ _ _ h => h) (Or.inl ⟨by rfl, ?_⟩) ?_ ?_
        rotate_left
        ·intro w'
         go_simp
         with_reducible rfl
        rotate_left
        ·simp only [Act.put, Ze, Zf, Zg, zl, zm]
         rfl
        refine zq (i := 5) (N := some 22) (v := ?_) (a' := ?_) #[O,O,O,O,X,O,X,X,X,X,X,X,X,X,X,X,X,X,X,X,X,X,X,X,X] rfl rfl (zo HT_.out (by kernel_rfl)) (fun _ _ _ h => h) (Or.inl ⟨by rfl, ?_⟩) ?_ ?_
        rotate_left
        ·intro w'
         go_simp
         with_reducible rfl
        rotate_left
        ·simp only [Act.put, Ze, Zf, Zg, zl, zm]
         rfl
        refine zq (i := 6) (N := some 23) (v := ?_) (a' := ?_) #[O,O,O,O,X,O,O,X,X,X,X,X,X,X,X,X,X,X,X,X,X,X,X,X,X] rfl rfl (zo HT_.out (by kernel_rfl)) (fun _ _ _ h => h) (Or.inl ⟨by rfl, ?_⟩) ?_ ?_
        rotate_left
        ·intro w'
         go_simp
         with_reducible rfl
        rotate_left
        ·simp only [Act.put, Ze, Zf, Zg, zl, zm]
         rfl
        refine zq (i := 7) (N := some 24) (v := ?_) (a' := ?_) #[O,O,O,O,X,O,O,O,X,X,X,X,X,X,X,X,X,X,X,X,X,X,X,X,X] rfl rfl (zo HT_.out (by kernel_rfl)) (fun _ _ _ h => h) (Or.inl ⟨by rfl, ?_⟩) ?_ ?_
        rotate_left
        ·intro w'
         go_simp
         with_reducible rfl
        rotate_left
        ·simp only [Act.put, Ze, Zf, Zg, zl, zm]
         rfl
        refine zq (i := 8) (N := some 25) (v := ?_) (a' := ?_) #[O,O,O,O,X,O,O,O,O,X,X,X,X,X,X,X,X,X,X,X,X,X,X,X,X] rfl rfl (zo HT_.out (by kernel_rfl)) (fun _ _ _ h => h) (Or.inl ⟨by rfl, ?_⟩) ?_ ?_
        rotate_left
        ·intro w'
         go_simp
         with_reducible rfl
        rotate_left
        ·simp only [Act.put, Ze, Zf, Zg, zl, zm]
         rfl
        refine take_ (i := 4) (N := some 21) (v := ?_) (a' := ?_) #[O,O,O,O,O,O,O,O,O,X,X,X,X,X,X,X,X,X,X,X,X,X,X,X,X] rfl rfl (zQ HT_.out HW_.out (by kernel_rfl)) (fun _ _ _ h => h) (Or.inl ⟨by rfl, ?_⟩) hHeld ?_ ?_
        rotate_left
        ·rintro w' ⟨s0, s1, s2, s3, s4, s5, s6, s7⟩
         go_simp
         with_reducible rfl
        rotate_left
        ·simp only [Act.put, Ze, Zf, Zg, zl, zm]
         rfl
        refine take_ (i := 9) (N := some 26) (v := ?_) (a' := ?_) #[O,O,O,O,O,O,O,O,O,O,X,X,X,X,X,X,X,X,X,X,X,X,X,X,X] rfl rfl (zQ HT_.out HW_.out (by kernel_rfl)) (fun _ _ _ h => h) (Or.inl ⟨by rfl, ?_⟩) hHeld ?_ ?_
        rotate_left
        ·rintro w' ⟨s0, s1, s2, s3, s4, s5, s6, s7⟩
         go_simp
         with_reducible rfl
        rotate_left
        ·simp only [Act.put, Ze, Zf, Zg, zl, zm]
         rfl
        refine zq (i := 10) (N := some 27) (v := ?_) (a' := ?_) #[O,O,O,O,O,O,O,O,O,O,O,X,X,X,X,X,X,X,X,X,X,X,X,X,X] rfl rfl (zo HT_.out (by kernel_rfl)) (fun _ _ _ h => h) (Or.inl ⟨by rfl, ?_⟩) ?_ ?_
        rotate_left
        ·intro w'
         go_simp
         with_reducible rfl
        rotate_left
        ·simp only [Act.put, Ze, Zf, Zg, zl, zm]
         rfl
        refine zq (i := 11) (N := some 28) (v := ?_) (a' := ?_) #[O,O,O,O,O,O,O,O,O,O,O,O,X,X,X,X,X,X,X,X,X,X,X,X,X] rfl rfl (zo HT_.out (by kernel_rfl)) (fun _ _ _ h => h) (Or.inl ⟨by rfl, ?_⟩) ?_ ?_
        rotate_left
        ·intro w'
         go_simp
         with_reducible rfl
        rotate_left
        ·simp only [Act.put, Ze, Zf, Zg, zl, zm]
         rfl
        refine zq (i := 12) (N := some 29) (v := undef) (a' := ?_) #[O,O,O,O,O,O,O,O,O,O,O,O,O,X,X,X,X,X,X,X,X,X,X,X,X] rfl rfl (zo HT_.out (by kernel_rfl)) (fun _ _ _ h => h) (Or.inr ⟨by rfl, rfl⟩) ?_ ?_
        rotate_left
        ·simp only [Act.put, Ze, Zf, Zg, zl, zm]
         rfl
        refine zq (i := 13) (N := some 30) (v := undef) (a' := ?_) #[O,O,O,O,O,O,O,O,O,O,O,O,O,O,X,X,X,X,X,X,X,X,X,X,X] rfl rfl (zo HT_.out (by kernel_rfl)) (fun _ _ _ h => h) (Or.inr ⟨by rfl, rfl⟩) ?_ ?_
        rotate_left
        ·simp only [Act.put, Ze, Zf, Zg, zl, zm]
         rfl
        refine zq (i := 14) (N := some 31) (v := undef) (a' := ?_) #[O,O,O,O,O,O,O,O,O,O,O,O,O,O,O,X,X,X,X,X,X,X,X,X,X] rfl rfl (zo HT_.out (by kernel_rfl)) (fun _ _ _ h => h) (Or.inr ⟨by rfl, rfl⟩) ?_ ?_
        rotate_left
        ·simp only [Act.put, Ze, Zf, Zg, zl, zm]
         rfl
        refine zq (i := 15) (N := some 32) (v := undef) (a' := ?_) #[O,O,O,O,O,O,O,O,O,O,O,O,O,O,O,O,X,X,X,X,X,X,X,X,X] rfl rfl (zo HT_.out (by kernel_rfl)) (fun _ _ _ h => h) (Or.inr ⟨by rfl, rfl⟩) ?_ ?_
        rotate_left
        ·simp only [Act.put, Ze, Zf, Zg, zl, zm]
         rfl
        refine zq (i := 16) (N := some 33) (v := undef) (a' := ?_) #[O,O,O,O,O,O,O,O,O,O,O,O,O,O,O,O,O,X,X,X,X,X,X,X,X] rfl rfl (zo HT_.out (by kernel_rfl)) (fun _ _ _ h => h) (Or.inr ⟨by rfl, rfl⟩) ?_ ?_
        rotate_left
        ·simp only [Act.put, Ze, Zf, Zg, zl, zm]
         rfl
        refine zq (i := 17) (N := some 34) (v := undef) (a' := ?_) #[O,O,O,O,O,O,O,O,O,O,O,O,O,O,O,O,O,O,X,X,X,X,X,X,X] rfl rfl (zo HT_.out (by kernel_rfl)) (fun _ _ _ h => h) (Or.inr ⟨by rfl, rfl⟩) ?_ ?_
        rotate_left
        ·simp only [Act.put, Ze, Zf, Zg, zl, zm]
         rfl
        refine zq (i := 18) (N := some 35) (v := undef) (a' := ?_) #[O,O,O,O,O,O,O,O,O,O,O,O,O,O,O,O,O,O,O,X,X,X,X,X,X] rfl rfl (zo HT_.out (by kernel_rfl)) (fun _ _ _ h => h) (Or.inr ⟨by rfl, rfl⟩) ?_ ?_
        rotate_left
        ·simp only [Act.put, Ze, Zf, Zg, zl, zm]
         rfl
        refine zq (i := 19) (N := some 36) (v := undef) (a' := ?_) #[O,O,O,O,O,O,O,O,O,O,O,O,O,O,O,O,O,O,O,O,X,X,X,X,X] rfl rfl (zo HT_.out (by kernel_rfl)) (fun _ _ _ h => h) (Or.inr ⟨by rfl, rfl⟩) ?_ ?_
        rotate_left
        ·simp only [Act.put, Ze, Zf, Zg, zl, zm]
         rfl
        refine zq (i := 20) (N := some 37) (v := undef) (a' := ?_) #[O,O,O,O,O,O,O,O,O,O,O,O,O,O,O,O,O,O,O,O,O,X,X,X,X] rfl rfl (zo HT_.out (by kernel_rfl)) (fun _ _ _ h => h) (Or.inr ⟨by rfl, rfl⟩) ?_ ?_
        rotate_left
        ·simp only [Act.put, Ze, Zf, Zg, zl, zm]
         rfl
        refine zq (i := 21) (N := some 38) (v := undef) (a' := ?_) #[O,O,O,O,O,O,O,O,O,O,O,O,O,O,O,O,O,O,O,O,O,O,X,X,X] rfl rfl (zo HT_.out (by kernel_rfl)) (fun _ _ _ h => h) (Or.inr ⟨by rfl, rfl⟩) ?_ ?_
        rotate_left
        ·simp only [Act.put, Ze, Zf, Zg, zl, zm]
         rfl
        refine zq (i := 22) (N := some 39) (v := undef) (a' := ?_) #[O,O,O,O,O,O,O,O,O,O,O,O,O,O,O,O,O,O,O,O,O,O,O,X,X] rfl rfl (zo HT_.out (by kernel_rfl)) (fun _ _ _ h => h) (Or.inr ⟨by rfl, rfl⟩) ?_ ?_
        rotate_left
        ·simp only [Act.put, Ze, Zf, Zg, zl, zm]
         rfl
        refine zq (i := 23) (N := some 40) (v := undef) (a' := ?_) #[O,O,O,O,O,O,O,O,O,O,O,O,O,O,O,O,O,O,O,O,O,O,O,O,X] rfl rfl (zo HT_.out (by kernel_rfl)) (fun _ _ _ h => h) (Or.inr ⟨by rfl, rfl⟩) ?_ ?_
        rotate_left
        ·simp only [Act.put, Ze, Zf, Zg, zl, zm]
         rfl
        refine zq (i := 24) (N := some 41) (v := ?_) (a' := ?_) #[O,O,O,O,O,O,O,O,O,O,O,O,O,O,O,O,O,O,O,O,O,O,O,O,O] rfl rfl (zo HT_.out (by kernel_rfl)) (fun _ _ _ h => h) (Or.inl ⟨by rfl, ?_⟩) ?_ ?_
        rotate_left
        ·intro w'
         go_simp
         with_reducible rfl
        rotate_left
        ·simp only [Act.put, Ze, Zf, Zg, zl, zm]
         rfl
        refine yZ (yE HT_.out (by kernel_rfl)) ?_
        try go_wp2
        go_ret
        exact ⟨by first | rfl | (simp [zu, zv] <;> rfl) | (simp [*, zu, zv] <;> rfl), by repeat (first | (with_reducible first | exact HB.out | apply zf | apply zd | apply ze) | exact HB.out)⟩
      ·rw [if_neg c6] at H
       exact absurd H (by simp)
     ·rw [if_neg c5] at H
      exact absurd H (by simp)
    ·rw [if_neg c4] at H
     have c4b0 : decide (x5_1 < (l0.length : Int)) = false := decide_eq_false c4
     clear c4
     obtain rfl := Option.some.inj H
     go_wp2
     go_ret
     exact ⟨by first | rfl | (simp [zu, zv] <;> rfl) | (simp [*, zu, zv] <;> rfl), by repeat (first | (with_reducible first | exact HB.out | apply zf | apply zd | apply ze) | exact HB.out)⟩
 ·rw [if_neg c3] at H
  have c3b0 : ((l0.length : Int) == (l1.length : Int)) = false := beq_eq_false_iff_ne.mpr c3
  have c3b1 : ((l0.length : Int) != (l1.length : Int)) = true := bne_iff_ne.mpr c3
  have c3b2 : (l0.length == l1.length) = false := by first | simpa using c3 | (simp at c3 ⊢; omega)
  obtain rfl := Option.some.inj H
  go_enter Tryz.func43, Tryz.ntmps43
  go_wp2
  go_ret
  exact ⟨by first | rfl | (simp [zu, zv] <;> rfl) | (simp [*, zu, zv] <;> rfl), by repeat (first | (with_reducible first | exact HB.out | apply zf | apply zd | apply ze) | exact HB.out)⟩
attribute [local go_sem high] vA
def zK.l0 : Nat → List (S77) → List (S77) → Int → Option (Bool)
 | 0, _, _, _ => none
 | k + 1, x0, x1, x5 => if x5 < (x0.length : Int) then (if 0 ≤ x5 then (if x5 < (x1.length : Int) then (if (!(((yg x0 x5).f0) == ((yg x1 x5).f0)) || (!(((yg x0 x5).f1) == ((yg x1 x5).f1)))) = true then (some false) else (zK.l0 k x0 x1 (wrap64 (x5 + 1)))) else (none)) else (none)) else (some true)
def zK.f (k : Nat) (l0 : List (S77)) (l1 : List (S77)) : Option (Bool) := if (l0.length : Int) = (l1.length : Int) then (zK.l0 k l0 l1 0) else (some false)
theorem zK.calls (k : Nat) (A0 : Option Addr) (c0 : Nat) (l0 : List (S77)) (A1 : Option Addr) (c1 : Nat) (l1 : List (S77)) (r : Bool) (w : World) (hr0 : Kd.C k77 w A0 l0.length l0) (hc0 : l0.length ≤ c0) (hr1 : Kd.C k77 w A1 l1.length l1) (hc1 : l1.length ≤ c1) (h : zK.f k l0 l1 = some r) :
  Calls Tryz.prog 44 #[.slice A0 l0.length c0, .slice A1 l1.length c1] w fun e w' => e = .returned (.bool r) ∧ zC w w' := by
 have hu77 := Tryz.underlying77
 have HR0 := zc.mk hr0
 have HC0 := zc.mk hc0
 clear hr0 hc0
 have HR1 := zc.mk hr1
 have HC1 := zc.mk hc1
 clear hr1 hc1
 have H : (if (l0.length : Int) = (l1.length : Int) then (zK.l0 k l0 l1 0) else (some false)) = some r := h
 clear h
 by_cases c3 : (l0.length : Int) = (l1.length : Int)
 ·rw [if_pos c3] at H
  have c3b0 : ((l0.length : Int) == (l1.length : Int)) = true := beq_iff_eq.mpr c3
  have c3b1 : ((l0.length : Int) != (l1.length : Int)) = false := bne_eq_false_iff_eq.mpr c3
  have c3b2 : (l0.length == l1.length) = true := by first | simpa using c3 | (simp at c3 ⊢; omega)
  clear c3
  have H' := zc.mk H
  clear H
  go_enter Tryz.func44, Tryz.ntmps44
  go_wp2
  repeat (go_quiet (fail); try go_wp2)
  go_loopg [5] k (fun kq v5 w' => ∃ (x5_1 : Int), v5 = .int .i64 x5_1 ∧ zc (zK.l0 kq l0 l1 x5_1 = some r) ∧ zc (kq ≤ k) ∧ zC w w')
  case atStart => exact ⟨(0), (by first | rfl | (simp; done) | (simp [*]; done)), H', ⟨Nat.le_refl _⟩, by repeat (first | exact zC.refl _ | apply zC.step)⟩
  case round =>
   clear H'
   try clear c1
   try clear p2
   try clear c3
   try clear c3b0
   try clear c3b1
   try clear c3b2
   obtain ⟨x5_1, rfl, HA, HK1, ⟨m1, rfl⟩⟩ := hrel
   cases gk with
   | zero => exact absurd HA.out (by simp [zK.l0])
   | succ k1 =>
    have H := HA.out
    clear HA
    simp only [zK.l0] at H
    by_cases c4 : x5_1 < (l0.length : Int)
    ·rw [if_pos c4] at H
     have c4b0 : decide (x5_1 < (l0.length : Int)) = true := decide_eq_true c4
     clear c4
     by_cases c5 : 0 ≤ x5_1
     ·rw [if_pos c5] at H
      have c5b0 : decide (0 ≤ x5_1) = true := decide_eq_true c5
      clear c5
      by_cases c6 : x5_1 < (l1.length : Int)
      ·rw [if_pos c6] at H
       have c6b0 : decide (x5_1 < (l1.length : Int)) = true := decide_eq_true c6
       clear c6
       by_cases c7 : (!(((yg l0 x5_1).f0) == ((yg l1 x5_1).f0)) || (!(((yg l0 x5_1).f1) == ((yg l1 x5_1).f1)))) = true
       ·rw [if_pos c7] at H
        have c7b0 : (!(((yg l0 x5_1).f0) == ((yg l1 x5_1).f0)) || (!(((yg l0 x5_1).f1) == ((yg l1 x5_1).f1)))) = true := c7
        clear c7
        obtain rfl := Option.some.inj H
        have p740 : 0 ≤ (x5_1 : Int) := of_decide_eq_true (by first | (with_reducible assumption) | assumption)
        have q740 : x5_1 < (l0.length : Int) := of_decide_eq_true (by first | (with_reducible assumption) | assumption)
        obtain ⟨ad740, e740, hx740_0, hx740_1⟩ := xN HR0.out x5_1 p740 q740
        cases e740
        replace p740 := eq_true p740
        replace q740 := eq_true q740
        have p741 : 0 ≤ (x5_1 : Int) := of_decide_eq_true (by first | (with_reducible assumption) | assumption)
        have q741 : x5_1 < (l1.length : Int) := of_decide_eq_true (by first | (with_reducible assumption) | assumption)
        obtain ⟨ad741, e741, hx741_0, hx741_1⟩ := xN HR1.out x5_1 p741 q741
        cases e741
        replace p741 := eq_true p741
        replace q741 := eq_true q741
        go_wp2
        repeat (go_quiet (fail); try go_wp2)
        go_ret
        exact ⟨by first | rfl | (simp; done) | (simp [*]; done), by repeat (first | exact zC.refl _ | apply zC.step)⟩
       ·rw [if_neg c7] at H
        have c7b0 : (!(((yg l0 x5_1).f0) == ((yg l1 x5_1).f0)) || (!(((yg l0 x5_1).f1) == ((yg l1 x5_1).f1)))) = false := by simpa using c7
        clear c7
        have H' := zc.mk H
        clear H
        have p740 : 0 ≤ (x5_1 : Int) := of_decide_eq_true (by first | (with_reducible assumption) | assumption)
        have q740 : x5_1 < (l0.length : Int) := of_decide_eq_true (by first | (with_reducible assumption) | assumption)
        obtain ⟨ad740, e740, hx740_0, hx740_1⟩ := xN HR0.out x5_1 p740 q740
        cases e740
        replace p740 := eq_true p740
        replace q740 := eq_true q740
        have p741 : 0 ≤ (x5_1 : Int) := of_decide_eq_true (by first | (with_reducible assumption) | assumption)
        have q741 : x5_1 < (l1.length : Int) := of_decide_eq_true (by first | (with_reducible assumption) | assumption)
        obtain ⟨ad741, e741, hx741_0, hx741_1⟩ := xN HR1.out x5_1 p741 q741
        cases e741
        replace p741 := eq_true p741
        replace q741 := eq_true q741
        go_wp2
        repeat (go_quiet (fail); try go_wp2)
        go_roundg k1
        case measure => have := HK1.out; omega
        case rel => exact ⟨(wrap64 (x5_1 + 1)), (by first | rfl | (simp; done) | (simp [*]; done)), H', ⟨by have := HK1.out; omega⟩, by repeat (first | exact zC.refl _ | apply zC.step)⟩
      ·rw [if_neg c6] at H
       exact absurd H (by simp)
     ·rw [if_neg c5] at H
      exact absurd H (by simp)
    ·rw [if_neg c4] at H
     have c4b0 : decide (x5_1 < (l0.length : Int)) = false := decide_eq_false c4
     clear c4
     obtain rfl := Option.some.inj H
     go_wp2
     repeat (go_quiet (fail); try go_wp2)
     go_ret
     exact ⟨by first | rfl | (simp; done) | (simp [*]; done), by repeat (first | exact zC.refl _ | apply zC.step)⟩
 ·rw [if_neg c3] at H
  have c3b0 : ((l0.length : Int) == (l1.length : Int)) = false := beq_eq_false_iff_ne.mpr c3
  have c3b1 : ((l0.length : Int) != (l1.length : Int)) = true := bne_iff_ne.mpr c3
  have c3b2 : (l0.length == l1.length) = false := by first | simpa using c3 | (simp at c3 ⊢; omega)
  obtain rfl := Option.some.inj H
  go_enter Tryz.func44, Tryz.ntmps44
  go_wp2
  repeat (go_quiet (fail); try go_wp2)
  go_ret
  exact ⟨by first | rfl | (simp; done) | (simp [*]; done), by repeat (first | exact zC.refl _ | apply zC.step)⟩
end Go.Proofs.YtepipnpfggnadaaGreat.Q
