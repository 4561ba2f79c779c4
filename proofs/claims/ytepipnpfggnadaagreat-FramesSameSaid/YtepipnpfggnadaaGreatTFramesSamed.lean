/- Texts of this session laid together (shrink.py): what the claim's law rests on. -/
import Derived.Below
import Derived.Deep.Draws
import Derived.Deep.AppendLies
import Derived.Maps.AppendAt
import Derived.OwnWalk
import Derived.Laws.BytesArg
import Derived.Laws.MakeOwn
import Derived.Laws.OwnMore
import Derived.Deep.OwnRows
import Derived.Tactics
import Derived.Lib.ConvBytes
import Derived.Laws.Slices
import Derived.WalkKit
import Derived.KernelRfl
import Derived.RowKit3
import Derived.Deep.LoopGhost
import Derived.Deep.QuietTactic
import Derived.BigQuiet
import Derived.WideLaws
import Derived.Deep.DeepCutAuto
import Derived.Deep.CutBlock
import Derived.Deep.RegionHeld3
import Derived.Laws.Rows
import Derived.Lib.AppendStr
import Derived.ArgAppend
import Derived.Laws.IdiomCopy
import Derived.RowKit
import Derived.OrdersHeld
import Derived.Laws.BitsLemmas
import Derived.Laws.StructEq
import Derived.Test.YtepipnpfggnadaaGreatProg
import Derived.WalkMore
import Derived.Lib.Strings
import Derived.Test.YtepipnpfggnadaaGreatTFramesSamec
set_option linter.unusedVariables false
set_option linter.unusedSimpArgs false
set_option maxRecDepth 100000
set_option maxHeartbeats 8000000
open Bool renaming true → O, false → X
open List renaming setIfInBounds_toArray → Ze
open List renaming set_cons_zero → Zf
open List renaming set_cons_succ → Zg
open List renaming map_toArray → Zh
open Option renaming bind_eq_some_iff → Zi
open Go.World renaming block_lt_of_cell? → Zj
open Bool renaming eq_false_iff → Zk
open List renaming length_append → Zl
namespace Go.Proofs.YtepipnpfggnadaaGreat.Q
open Go.RowKit Go.Proofs.YtepipnpfggnadaaGreatW.PrintWords Go.Proofs.YtepipnpfggnadaaGreatW.PrintLast Go.Proofs.YtepipnpfggnadaaGreatW.PrintMore
attribute [local go_sem] xh xg xm xn yT yU xe xd
def zH.j0 : Nat → Bool → Int → Int → Int → Int → Int → List ByteArray → List (S52) → List (S46) → List (S86) → List (S77) → Int → Int → Int → Int → Int → List ByteArray → List (S52) → List (S46) → List (S86) → List (S77) → Option (Bool)
 | 0, _, _, _, _, _, _, _, _, _, _, _, _, _, _, _, _, _, _, _, _, _ => none
 | k + 1, x5, x146000, x146001, x146002, x146003, x146004, x146005, x146006, x146007, x146008, x146009, x147000, x147001, x147002, x147003, x147004, x147005, x147006, x147007, x147008, x147009 => if x5 = true then ((zP.f k x146005 x147005).bind fun t147 => (if t147 = true then ((yb.f k x146009 x147009).bind fun t148 => (if t148 = true then ((z5.f k x146006 x147006).bind fun t149 => (if t149 = true then ((zY.f k x146007 x147007).bind fun t150 => (if t150 = true then ((zX.f k x146008 x147008).bind fun t151 => (some t151)) else (some false))) else (some false))) else (some false))) else (some false))) else (some false)
def zH.f (k : Nat) (a0_0 : Int) (a0_1 : Int) (a0_2 : Int) (a0_3 : Int) (a0_4 : Int) (l0_5 : List ByteArray) (l0_6 : List (S52)) (l0_7 : List (S46)) (l0_8 : List (S86)) (l0_9 : List (S77)) (a1_0 : Int) (a1_1 : Int) (a1_2 : Int) (a1_3 : Int) (a1_4 : Int) (l1_5 : List ByteArray) (l1_6 : List (S52)) (l1_7 : List (S46)) (l1_8 : List (S86)) (l1_9 : List (S77)) : Option (Bool) := if a0_0 = a1_0 then (if a0_1 = a1_1 then (if a0_2 = a1_2 then (if a0_3 = a1_3 then (zH.j0 k (a0_4 == a1_4) a0_0 a0_1 a0_2 a0_3 a0_4 l0_5 l0_6 l0_7 l0_8 l0_9 a1_0 a1_1 a1_2 a1_3 a1_4 l1_5 l1_6 l1_7 l1_8 l1_9) else (zH.j0 k false a0_0 a0_1 a0_2 a0_3 a0_4 l0_5 l0_6 l0_7 l0_8 l0_9 a1_0 a1_1 a1_2 a1_3 a1_4 l1_5 l1_6 l1_7 l1_8 l1_9)) else (zH.j0 k false a0_0 a0_1 a0_2 a0_3 a0_4 l0_5 l0_6 l0_7 l0_8 l0_9 a1_0 a1_1 a1_2 a1_3 a1_4 l1_5 l1_6 l1_7 l1_8 l1_9)) else (zH.j0 k false a0_0 a0_1 a0_2 a0_3 a0_4 l0_5 l0_6 l0_7 l0_8 l0_9 a1_0 a1_1 a1_2 a1_3 a1_4 l1_5 l1_6 l1_7 l1_8 l1_9)) else (zH.j0 k false a0_0 a0_1 a0_2 a0_3 a0_4 l0_5 l0_6 l0_7 l0_8 l0_9 a1_0 a1_1 a1_2 a1_3 a1_4 l1_5 l1_6 l1_7 l1_8 l1_9)
theorem zH.calls (k : Nat) (a0_0 : Int) (a0_1 : Int) (a0_2 : Int) (a0_3 : Int) (a0_4 : Int) (A0_5 : Option Addr) (c0_5 : Nat) (l0_5 : List ByteArray) (A0_6 : Option Addr) (c0_6 : Nat) (l0_6 : List (S52)) (A0_7 : Option Addr) (c0_7 : Nat) (l0_7 : List (S46)) (A0_8 : Option Addr) (c0_8 : Nat) (l0_8 : List (S86)) (A0_9 : Option Addr) (c0_9 : Nat) (l0_9 : List (S77)) (a1_0 : Int) (a1_1 : Int) (a1_2 : Int) (a1_3 : Int) (a1_4 : Int) (A1_5 : Option Addr) (c1_5 : Nat) (l1_5 : List ByteArray) (A1_6 : Option Addr) (c1_6 : Nat) (l1_6 : List (S52)) (A1_7 : Option Addr) (c1_7 : Nat) (l1_7 : List (S46)) (A1_8 : Option Addr) (c1_8 : Nat) (l1_8 : List (S86)) (A1_9 : Option Addr) (c1_9 : Nat) (l1_9 : List (S77)) (r : Bool) (w : World) (hr0_5 : Kd.C Kd.string w A0_5 l0_5.length l0_5) (hc0_5 : l0_5.length ≤ c0_5) (hr0_6 : Kd.C k52 w A0_6 l0_6.length l0_6) (hc0_6 : l0_6.length ≤ c0_6) (hr0_7 : Kd.C k46 w A0_7 l0_7.length l0_7) (hc0_7 : l0_7.length ≤ c0_7) (hr0_8 : Kd.C k86 w A0_8 l0_8.length l0_8) (hc0_8 : l0_8.length ≤ c0_8) (hr0_9 : Kd.C k77 w A0_9 l0_9.length l0_9) (hc0_9 : l0_9.length ≤ c0_9) (hr1_5 : Kd.C Kd.string w A1_5 l1_5.length l1_5) (hc1_5 : l1_5.length ≤ c1_5) (hr1_6 : Kd.C k52 w A1_6 l1_6.length l1_6) (hc1_6 : l1_6.length ≤ c1_6) (hr1_7 : Kd.C k46 w A1_7 l1_7.length l1_7) (hc1_7 : l1_7.length ≤ c1_7) (hr1_8 : Kd.C k86 w A1_8 l1_8.length l1_8) (hc1_8 : l1_8.length ≤ c1_8) (hr1_9 : Kd.C k77 w A1_9 l1_9.length l1_9) (hc1_9 : l1_9.length ≤ c1_9) (h : zH.f k a0_0 a0_1 a0_2 a0_3 a0_4 l0_5 l0_6 l0_7 l0_8 l0_9 a1_0 a1_1 a1_2 a1_3 a1_4 l1_5 l1_6 l1_7 l1_8 l1_9 = some r) :
  Calls Tryz.prog 15 #[.agg #[.int .i64 a0_0, .int .i64 a0_1, .int .i64 a0_2, .int .i64 a0_3, .int .i64 a0_4, .slice A0_5 l0_5.length c0_5, .slice A0_6 l0_6.length c0_6, .slice A0_7 l0_7.length c0_7, .slice A0_8 l0_8.length c0_8, .slice A0_9 l0_9.length c0_9], .agg #[.int .i64 a1_0, .int .i64 a1_1, .int .i64 a1_2, .int .i64 a1_3, .int .i64 a1_4, .slice A1_5 l1_5.length c1_5, .slice A1_6 l1_6.length c1_6, .slice A1_7 l1_7.length c1_7, .slice A1_8 l1_8.length c1_8, .slice A1_9 l1_9.length c1_9]] w fun e w' => e = .returned (.bool r) ∧ Below w.heap.size w w' := by
 have hu28 := Tryz.underlying28
 have HR0_5 := zc.mk hr0_5
 have HC0_5 := zc.mk hc0_5
 clear hr0_5 hc0_5
 have HR0_6 := zc.mk hr0_6
 have HC0_6 := zc.mk hc0_6
 clear hr0_6 hc0_6
 have HR0_7 := zc.mk hr0_7
 have HC0_7 := zc.mk hc0_7
 clear hr0_7 hc0_7
 have HR0_8 := zc.mk hr0_8
 have HC0_8 := zc.mk hc0_8
 clear hr0_8 hc0_8
 have HR0_9 := zc.mk hr0_9
 have HC0_9 := zc.mk hc0_9
 clear hr0_9 hc0_9
 have HR1_5 := zc.mk hr1_5
 have HC1_5 := zc.mk hc1_5
 clear hr1_5 hc1_5
 have HR1_6 := zc.mk hr1_6
 have HC1_6 := zc.mk hc1_6
 clear hr1_6 hc1_6
 have HR1_7 := zc.mk hr1_7
 have HC1_7 := zc.mk hc1_7
 clear hr1_7 hc1_7
 have HR1_8 := zc.mk hr1_8
 have HC1_8 := zc.mk hc1_8
 clear hr1_8 hc1_8
 have HR1_9 := zc.mk hr1_9
 have HC1_9 := zc.mk hc1_9
 clear hr1_9 hc1_9
 have HB := zc.mk (Below.refl w.heap.size w)
 have H : (if a0_0 = a1_0 then (if a0_1 = a1_1 then (if a0_2 = a1_2 then (if a0_3 = a1_3 then (zH.j0 k (a0_4 == a1_4) a0_0 a0_1 a0_2 a0_3 a0_4 l0_5 l0_6 l0_7 l0_8 l0_9 a1_0 a1_1 a1_2 a1_3 a1_4 l1_5 l1_6 l1_7 l1_8 l1_9) else (zH.j0 k false a0_0 a0_1 a0_2 a0_3 a0_4 l0_5 l0_6 l0_7 l0_8 l0_9 a1_0 a1_1 a1_2 a1_3 a1_4 l1_5 l1_6 l1_7 l1_8 l1_9)) else (zH.j0 k false a0_0 a0_1 a0_2 a0_3 a0_4 l0_5 l0_6 l0_7 l0_8 l0_9 a1_0 a1_1 a1_2 a1_3 a1_4 l1_5 l1_6 l1_7 l1_8 l1_9)) else (zH.j0 k false a0_0 a0_1 a0_2 a0_3 a0_4 l0_5 l0_6 l0_7 l0_8 l0_9 a1_0 a1_1 a1_2 a1_3 a1_4 l1_5 l1_6 l1_7 l1_8 l1_9)) else (zH.j0 k false a0_0 a0_1 a0_2 a0_3 a0_4 l0_5 l0_6 l0_7 l0_8 l0_9 a1_0 a1_1 a1_2 a1_3 a1_4 l1_5 l1_6 l1_7 l1_8 l1_9)) = some r := h
 clear h
 have HC3 := zc.mk H
 clear H
 go_enter Tryz.func15, Tryz.ntmps15
 go_upto_region 1 with (first | ((with_reducible refine zB (N := 2) rfl ?_); refine zA ?hg (N := 2) ?hd (cs := #[.int .i64 a0_0, .int .i64 a0_1, .int .i64 a0_2, .int .i64 a0_3, .int .i64 a0_4, .slice A0_5 l0_5.length c0_5, .slice A0_6 l0_6.length c0_6, .slice A0_7 l0_7.length c0_7, .slice A0_8 l0_8.length c0_8, .slice A0_9 l0_9.length c0_9]) (t := 28) ?hr ?_; (case hd => rfl); (case hg => rfl); (case hr => first | (go_simp; done) | (go_simp; rfl)); intro gb145 hg w4 hbox hb; have n0_ := zc.mk (zs (by repeat (first | (with_reducible first | exact HB.out | apply zf | apply zd | apply ze) | exact HB.out)) hb); have n1_ := zc.mk (hbox); have n2_ := zc.mk ((by rw [hg]; exact (zr (by repeat (first | (with_reducible first | exact HB.out | apply zf | apply zd | apply ze) | exact HB.out))) : w.heap.size ≤ gb145)); have n3_ := zc.mk ((by rw [hg]; exact (zr (by repeat (first | (with_reducible first | exact HB.out | apply zf | apply zd | apply ze) | exact HB.out))) : w.heap.size ≤ gb145)); clear HB; have HB := n0_; have BK145 := n1_; have GW145 := n2_; have GE145 := n3_; clear n0_ n1_ n2_ n3_; clear hb hbox hg) | ((with_reducible refine zB (N := 3) rfl ?_); refine zA ?hg (N := 3) ?hd (cs := #[.int .i64 a1_0, .int .i64 a1_1, .int .i64 a1_2, .int .i64 a1_3, .int .i64 a1_4, .slice A1_5 l1_5.length c1_5, .slice A1_6 l1_6.length c1_6, .slice A1_7 l1_7.length c1_7, .slice A1_8 l1_8.length c1_8, .slice A1_9 l1_9.length c1_9]) (t := 28) ?hr ?_; (case hd => rfl); (case hg => rfl); (case hr => first | (go_simp; done) | (go_simp; rfl)); intro gb146 hg w5 hbox hb; have n0_ := zc.mk (zx (g := gb145) (o := .cells #[.int .i64 a0_0, .int .i64 a0_1, .int .i64 a0_2, .int .i64 a0_3, .int .i64 a0_4, .slice A0_5 l0_5.length c0_5, .slice A0_6 l0_6.length c0_6, .slice A0_7 l0_7.length c0_7, .slice A0_8 l0_8.length c0_8, .slice A0_9 l0_9.length c0_9] 28 (0, 0)) (by (with_reducible repeat (first | refine zh ?_ _ | refine zj ?_ | refine zi ?_ _)); exact BK145.out) hb); have n1_ := zc.mk (zs (by repeat (first | (with_reducible first | exact HB.out | apply zf | apply zd | apply ze | refine zg ?_ GE145.out) | exact HB.out)) hb); have n2_ := zc.mk (hbox); have n3_ := zc.mk ((by rw [hg]; exact (zr (by repeat (first | (with_reducible first | exact HB.out | apply zf | apply zd | apply ze | refine zg ?_ GE145.out) | exact HB.out))) : w.heap.size ≤ gb146)); have n4_ := zc.mk ((by rw [hg]; exact (zr (by repeat (first | (with_reducible first | exact HB.out | apply zf | apply zd | apply ze | refine zg ?_ GE145.out) | exact HB.out))) : w.heap.size ≤ gb146)); have n5_ := zc.mk ((by rw [hg]; exact Nat.ne_of_lt (zN (g := gb145) (o := .cells #[.int .i64 a0_0, .int .i64 a0_1, .int .i64 a0_2, .int .i64 a0_3, .int .i64 a0_4, .slice A0_5 l0_5.length c0_5, .slice A0_6 l0_6.length c0_6, .slice A0_7 l0_7.length c0_7, .slice A0_8 l0_8.length c0_8, .slice A0_9 l0_9.length c0_9] 28 (0, 0)) (by (with_reducible repeat (first | refine zh ?_ _ | refine zj ?_ | refine zi ?_ _)); exact BK145.out)) : gb145 ≠ gb146)); have n6_ := zc.mk ((by rw [hg]; exact Nat.ne_of_gt (zN (g := gb145) (o := .cells #[.int .i64 a0_0, .int .i64 a0_1, .int .i64 a0_2, .int .i64 a0_3, .int .i64 a0_4, .slice A0_5 l0_5.length c0_5, .slice A0_6 l0_6.length c0_6, .slice A0_7 l0_7.length c0_7, .slice A0_8 l0_8.length c0_8, .slice A0_9 l0_9.length c0_9] 28 (0, 0)) (by (with_reducible repeat (first | refine zh ?_ _ | refine zj ?_ | refine zi ?_ _)); exact BK145.out)) : gb146 ≠ gb145)); clear BK145; clear HB; have BK145 := n0_; have HB := n1_; have BK146 := n2_; have GW146 := n3_; have GE146 := n4_; have NB145_146 := n5_; have NB146_145 := n6_; clear n0_ n1_ n2_ n3_ n4_ n5_ n6_; clear hb hbox hg))
 (try simp only [Act.put, Ze, Zf, Zg])
 go_cut [5] (fun v5 wc => ∃ (kq : Nat) (x5_2 : Bool), v5 = .bool x5_2 ∧ zc (zH.j0 kq x5_2 a0_0 a0_1 a0_2 a0_3 a0_4 l0_5 l0_6 l0_7 l0_8 l0_9 a1_0 a1_1 a1_2 a1_3 a1_4 l1_5 l1_6 l1_7 l1_8 l1_9 = some r) ∧ zc (kq ≤ k) ∧ zc (wc.heap[gb145]? = some (.cells #[.int .i64 a0_0, .int .i64 a0_1, .int .i64 a0_2, .int .i64 a0_3, .int .i64 a0_4, (.slice A0_5 l0_5.length c0_5), (.slice A0_6 l0_6.length c0_6), (.slice A0_7 l0_7.length c0_7), (.slice A0_8 l0_8.length c0_8), (.slice A0_9 l0_9.length c0_9)] 28 (0, 0))) ∧ zc (wc.heap[gb146]? = some (.cells #[.int .i64 a1_0, .int .i64 a1_1, .int .i64 a1_2, .int .i64 a1_3, .int .i64 a1_4, (.slice A1_5 l1_5.length c1_5), (.slice A1_6 l1_6.length c1_6), (.slice A1_7 l1_7.length c1_7), (.slice A1_8 l1_8.length c1_8), (.slice A1_9 l1_9.length c1_9)] 28 (0, 0))) ∧ zc (Below w.heap.size w wc))
 case first =>
  have H := HC3.out
  clear HC3
  by_cases c6 : a0_0 = a1_0
  ·rw [if_pos c6] at H
   have c6b0 : (a0_0 == a1_0) = true := beq_iff_eq.mpr c6
   have c6b1 : (a0_0 != a1_0) = false := bne_eq_false_iff_eq.mpr c6
   clear c6
   (first | rw [c6b0] | (simp only [zl, zm]; rw [c6b0]) | skip)
   by_cases c7 : a0_1 = a1_1
   ·rw [if_pos c7] at H
    have c7b0 : (a0_1 == a1_1) = true := beq_iff_eq.mpr c7
    have c7b1 : (a0_1 != a1_1) = false := bne_eq_false_iff_eq.mpr c7
    clear c7
    by_cases c8 : a0_2 = a1_2
    ·rw [if_pos c8] at H
     have c8b0 : (a0_2 == a1_2) = true := beq_iff_eq.mpr c8
     have c8b1 : (a0_2 != a1_2) = false := bne_eq_false_iff_eq.mpr c8
     clear c8
     by_cases c9 : a0_3 = a1_3
     ·rw [if_pos c9] at H
      have c9b0 : (a0_3 == a1_3) = true := beq_iff_eq.mpr c9
      have c9b1 : (a0_3 != a1_3) = false := bne_eq_false_iff_eq.mpr c9
      clear c9
      have H' := zc.mk H
      clear H
      have hnb10 := NB145_146.out
      have hnc10 := NB146_145.out
      have hcz11_0 : w5.cell? ⟨gb145, 0, none⟩ = some (.int .i64 a0_0) := (za BK145.out 0).trans rfl
      have hcz11_1 : w5.cell? ⟨gb145, 1, none⟩ = some (.int .i64 a0_1) := (za BK145.out 1).trans rfl
      have hcz11_2 : w5.cell? ⟨gb145, 2, none⟩ = some (.int .i64 a0_2) := (za BK145.out 2).trans rfl
      have hcz11_3 : w5.cell? ⟨gb145, 3, none⟩ = some (.int .i64 a0_3) := (za BK145.out 3).trans rfl
      have hcz11_4 : w5.cell? ⟨gb145, 4, none⟩ = some (.int .i64 a0_4) := (za BK145.out 4).trans rfl
      have hcz11_5 : w5.cell? ⟨gb145, 5, none⟩ = some (.slice A0_5 l0_5.length c0_5) := (za BK145.out 5).trans rfl
      have hcz11_6 : w5.cell? ⟨gb145, 6, none⟩ = some (.slice A0_6 l0_6.length c0_6) := (za BK145.out 6).trans rfl
      have hcz11_7 : w5.cell? ⟨gb145, 7, none⟩ = some (.slice A0_7 l0_7.length c0_7) := (za BK145.out 7).trans rfl
      have hcz11_8 : w5.cell? ⟨gb145, 8, none⟩ = some (.slice A0_8 l0_8.length c0_8) := (za BK145.out 8).trans rfl
      have hcz11_9 : w5.cell? ⟨gb145, 9, none⟩ = some (.slice A0_9 l0_9.length c0_9) := (za BK145.out 9).trans rfl
      have hfz11_0 := zb BK145.out 0
      have hfz11_1 := zb BK145.out 1
      have hfz11_2 := zb BK145.out 2
      have hfz11_3 := zb BK145.out 3
      have hfz11_4 := zb BK145.out 4
      have hfz11_5 := zb BK145.out 5
      have hfz11_6 := zb BK145.out 6
      have hfz11_7 := zb BK145.out 7
      have hfz11_8 := zb BK145.out 8
      have hfz11_9 := zb BK145.out 9
      have hcz12_0 : w5.cell? ⟨gb146, 0, none⟩ = some (.int .i64 a1_0) := (za BK146.out 0).trans rfl
      have hcz12_1 : w5.cell? ⟨gb146, 1, none⟩ = some (.int .i64 a1_1) := (za BK146.out 1).trans rfl
      have hcz12_2 : w5.cell? ⟨gb146, 2, none⟩ = some (.int .i64 a1_2) := (za BK146.out 2).trans rfl
      have hcz12_3 : w5.cell? ⟨gb146, 3, none⟩ = some (.int .i64 a1_3) := (za BK146.out 3).trans rfl
      have hcz12_4 : w5.cell? ⟨gb146, 4, none⟩ = some (.int .i64 a1_4) := (za BK146.out 4).trans rfl
      have hcz12_5 : w5.cell? ⟨gb146, 5, none⟩ = some (.slice A1_5 l1_5.length c1_5) := (za BK146.out 5).trans rfl
      have hcz12_6 : w5.cell? ⟨gb146, 6, none⟩ = some (.slice A1_6 l1_6.length c1_6) := (za BK146.out 6).trans rfl
      have hcz12_7 : w5.cell? ⟨gb146, 7, none⟩ = some (.slice A1_7 l1_7.length c1_7) := (za BK146.out 7).trans rfl
      have hcz12_8 : w5.cell? ⟨gb146, 8, none⟩ = some (.slice A1_8 l1_8.length c1_8) := (za BK146.out 8).trans rfl
      have hcz12_9 : w5.cell? ⟨gb146, 9, none⟩ = some (.slice A1_9 l1_9.length c1_9) := (za BK146.out 9).trans rfl
      have hfz12_0 := zb BK146.out 0
      have hfz12_1 := zb BK146.out 1
      have hfz12_2 := zb BK146.out 2
      have hfz12_3 := zb BK146.out 3
      have hfz12_4 := zb BK146.out 4
      have hfz12_5 := zb BK146.out 5
      have hfz12_6 := zb BK146.out 6
      have hfz12_7 := zb BK146.out 7
      have hfz12_8 := zb BK146.out 8
      have hfz12_9 := zb BK146.out 9
      go_wp2
      go_meet
      case rel => exact ⟨_, ((a0_4 == a1_4)), (by first | rfl | (simp; done) | (simp [*]; done)), H', ⟨by first | omega | exact Nat.le_refl _⟩, ⟨by (with_reducible repeat (first | refine zh ?_ _ | refine zj ?_ | refine zi ?_ _)); exact BK145.out⟩, ⟨by (with_reducible repeat (first | refine zh ?_ _ | refine zj ?_ | refine zi ?_ _)); exact BK146.out⟩, ⟨by repeat (first | (with_reducible first | exact HB.out | apply zf | apply zd | apply ze | refine zg ?_ GE145.out | refine zg ?_ GE146.out) | exact HB.out)⟩⟩
     ·rw [if_neg c9] at H
      have c9b0 : (a0_3 == a1_3) = false := beq_eq_false_iff_ne.mpr c9
      have c9b1 : (a0_3 != a1_3) = true := bne_iff_ne.mpr c9
      have H' := zc.mk H
      clear H
      have hnb13 := NB145_146.out
      have hnc13 := NB146_145.out
      have hcz14_0 : w5.cell? ⟨gb145, 0, none⟩ = some (.int .i64 a0_0) := (za BK145.out 0).trans rfl
      have hcz14_1 : w5.cell? ⟨gb145, 1, none⟩ = some (.int .i64 a0_1) := (za BK145.out 1).trans rfl
      have hcz14_2 : w5.cell? ⟨gb145, 2, none⟩ = some (.int .i64 a0_2) := (za BK145.out 2).trans rfl
      have hcz14_3 : w5.cell? ⟨gb145, 3, none⟩ = some (.int .i64 a0_3) := (za BK145.out 3).trans rfl
      have hcz14_4 : w5.cell? ⟨gb145, 4, none⟩ = some (.int .i64 a0_4) := (za BK145.out 4).trans rfl
      have hcz14_5 : w5.cell? ⟨gb145, 5, none⟩ = some (.slice A0_5 l0_5.length c0_5) := (za BK145.out 5).trans rfl
      have hcz14_6 : w5.cell? ⟨gb145, 6, none⟩ = some (.slice A0_6 l0_6.length c0_6) := (za BK145.out 6).trans rfl
      have hcz14_7 : w5.cell? ⟨gb145, 7, none⟩ = some (.slice A0_7 l0_7.length c0_7) := (za BK145.out 7).trans rfl
      have hcz14_8 : w5.cell? ⟨gb145, 8, none⟩ = some (.slice A0_8 l0_8.length c0_8) := (za BK145.out 8).trans rfl
      have hcz14_9 : w5.cell? ⟨gb145, 9, none⟩ = some (.slice A0_9 l0_9.length c0_9) := (za BK145.out 9).trans rfl
      have hfz14_0 := zb BK145.out 0
      have hfz14_1 := zb BK145.out 1
      have hfz14_2 := zb BK145.out 2
      have hfz14_3 := zb BK145.out 3
      have hfz14_4 := zb BK145.out 4
      have hfz14_5 := zb BK145.out 5
      have hfz14_6 := zb BK145.out 6
      have hfz14_7 := zb BK145.out 7
      have hfz14_8 := zb BK145.out 8
      have hfz14_9 := zb BK145.out 9
      have hcz15_0 : w5.cell? ⟨gb146, 0, none⟩ = some (.int .i64 a1_0) := (za BK146.out 0).trans rfl
      have hcz15_1 : w5.cell? ⟨gb146, 1, none⟩ = some (.int .i64 a1_1) := (za BK146.out 1).trans rfl
      have hcz15_2 : w5.cell? ⟨gb146, 2, none⟩ = some (.int .i64 a1_2) := (za BK146.out 2).trans rfl
      have hcz15_3 : w5.cell? ⟨gb146, 3, none⟩ = some (.int .i64 a1_3) := (za BK146.out 3).trans rfl
      have hcz15_4 : w5.cell? ⟨gb146, 4, none⟩ = some (.int .i64 a1_4) := (za BK146.out 4).trans rfl
      have hcz15_5 : w5.cell? ⟨gb146, 5, none⟩ = some (.slice A1_5 l1_5.length c1_5) := (za BK146.out 5).trans rfl
      have hcz15_6 : w5.cell? ⟨gb146, 6, none⟩ = some (.slice A1_6 l1_6.length c1_6) := (za BK146.out 6).trans rfl
      have hcz15_7 : w5.cell? ⟨gb146, 7, none⟩ = some (.slice A1_7 l1_7.length c1_7) := (za BK146.out 7).trans rfl
      have hcz15_8 : w5.cell? ⟨gb146, 8, none⟩ = some (.slice A1_8 l1_8.length c1_8) := (za BK146.out 8).trans rfl
      have hcz15_9 : w5.cell? ⟨gb146, 9, none⟩ = some (.slice A1_9 l1_9.length c1_9) := (za BK146.out 9).trans rfl
      have hfz15_0 := zb BK146.out 0
      have hfz15_1 := zb BK146.out 1
      have hfz15_2 := zb BK146.out 2
      have hfz15_3 := zb BK146.out 3
      have hfz15_4 := zb BK146.out 4
      have hfz15_5 := zb BK146.out 5
      have hfz15_6 := zb BK146.out 6
      have hfz15_7 := zb BK146.out 7
      have hfz15_8 := zb BK146.out 8
      have hfz15_9 := zb BK146.out 9
      go_wp2
      go_meet
      case rel => exact ⟨_, (false), (by first | rfl | (simp; done) | (simp [*]; done)), H', ⟨by first | omega | exact Nat.le_refl _⟩, ⟨by (with_reducible repeat (first | refine zh ?_ _ | refine zj ?_ | refine zi ?_ _)); exact BK145.out⟩, ⟨by (with_reducible repeat (first | refine zh ?_ _ | refine zj ?_ | refine zi ?_ _)); exact BK146.out⟩, ⟨by repeat (first | (with_reducible first | exact HB.out | apply zf | apply zd | apply ze | refine zg ?_ GE145.out | refine zg ?_ GE146.out) | exact HB.out)⟩⟩
    ·rw [if_neg c8] at H
     have c8b0 : (a0_2 == a1_2) = false := beq_eq_false_iff_ne.mpr c8
     have c8b1 : (a0_2 != a1_2) = true := bne_iff_ne.mpr c8
     have H' := zc.mk H
     clear H
     have hnb16 := NB145_146.out
     have hnc16 := NB146_145.out
     have hcz17_0 : w5.cell? ⟨gb145, 0, none⟩ = some (.int .i64 a0_0) := (za BK145.out 0).trans rfl
     have hcz17_1 : w5.cell? ⟨gb145, 1, none⟩ = some (.int .i64 a0_1) := (za BK145.out 1).trans rfl
     have hcz17_2 : w5.cell? ⟨gb145, 2, none⟩ = some (.int .i64 a0_2) := (za BK145.out 2).trans rfl
     have hcz17_3 : w5.cell? ⟨gb145, 3, none⟩ = some (.int .i64 a0_3) := (za BK145.out 3).trans rfl
     have hcz17_4 : w5.cell? ⟨gb145, 4, none⟩ = some (.int .i64 a0_4) := (za BK145.out 4).trans rfl
     have hcz17_5 : w5.cell? ⟨gb145, 5, none⟩ = some (.slice A0_5 l0_5.length c0_5) := (za BK145.out 5).trans rfl
     have hcz17_6 : w5.cell? ⟨gb145, 6, none⟩ = some (.slice A0_6 l0_6.length c0_6) := (za BK145.out 6).trans rfl
     have hcz17_7 : w5.cell? ⟨gb145, 7, none⟩ = some (.slice A0_7 l0_7.length c0_7) := (za BK145.out 7).trans rfl
     have hcz17_8 : w5.cell? ⟨gb145, 8, none⟩ = some (.slice A0_8 l0_8.length c0_8) := (za BK145.out 8).trans rfl
     have hcz17_9 : w5.cell? ⟨gb145, 9, none⟩ = some (.slice A0_9 l0_9.length c0_9) := (za BK145.out 9).trans rfl
     have hfz17_0 := zb BK145.out 0
     have hfz17_1 := zb BK145.out 1
     have hfz17_2 := zb BK145.out 2
     have hfz17_3 := zb BK145.out 3
     have hfz17_4 := zb BK145.out 4
     have hfz17_5 := zb BK145.out 5
     have hfz17_6 := zb BK145.out 6
     have hfz17_7 := zb BK145.out 7
     have hfz17_8 := zb BK145.out 8
     have hfz17_9 := zb BK145.out 9
     have hcz18_0 : w5.cell? ⟨gb146, 0, none⟩ = some (.int .i64 a1_0) := (za BK146.out 0).trans rfl
     have hcz18_1 : w5.cell? ⟨gb146, 1, none⟩ = some (.int .i64 a1_1) := (za BK146.out 1).trans rfl
     have hcz18_2 : w5.cell? ⟨gb146, 2, none⟩ = some (.int .i64 a1_2) := (za BK146.out 2).trans rfl
     have hcz18_3 : w5.cell? ⟨gb146, 3, none⟩ = some (.int .i64 a1_3) := (za BK146.out 3).trans rfl
     have hcz18_4 : w5.cell? ⟨gb146, 4, none⟩ = some (.int .i64 a1_4) := (za BK146.out 4).trans rfl
     have hcz18_5 : w5.cell? ⟨gb146, 5, none⟩ = some (.slice A1_5 l1_5.length c1_5) := (za BK146.out 5).trans rfl
     have hcz18_6 : w5.cell? ⟨gb146, 6, none⟩ = some (.slice A1_6 l1_6.length c1_6) := (za BK146.out 6).trans rfl
     have hcz18_7 : w5.cell? ⟨gb146, 7, none⟩ = some (.slice A1_7 l1_7.length c1_7) := (za BK146.out 7).trans rfl
     have hcz18_8 : w5.cell? ⟨gb146, 8, none⟩ = some (.slice A1_8 l1_8.length c1_8) := (za BK146.out 8).trans rfl
     have hcz18_9 : w5.cell? ⟨gb146, 9, none⟩ = some (.slice A1_9 l1_9.length c1_9) := (za BK146.out 9).trans rfl
     have hfz18_0 := zb BK146.out 0
     have hfz18_1 := zb BK146.out 1
     have hfz18_2 := zb BK146.out 2
     have hfz18_3 := zb BK146.out 3
     have hfz18_4 := zb BK146.out 4
     have hfz18_5 := zb BK146.out 5
     have hfz18_6 := zb BK146.out 6
     have hfz18_7 := zb BK146.out 7
     have hfz18_8 := zb BK146.out 8
     have hfz18_9 := zb BK146.out 9
     go_wp2
     go_meet
     case rel => exact ⟨_, (false), (by first | rfl | (simp; done) | (simp [*]; done)), H', ⟨by first | omega | exact Nat.le_refl _⟩, ⟨by (with_reducible repeat (first | refine zh ?_ _ | refine zj ?_ | refine zi ?_ _)); exact BK145.out⟩, ⟨by (with_reducible repeat (first | refine zh ?_ _ | refine zj ?_ | refine zi ?_ _)); exact BK146.out⟩, ⟨by repeat (first | (with_reducible first | exact HB.out | apply zf | apply zd | apply ze | refine zg ?_ GE145.out | refine zg ?_ GE146.out) | exact HB.out)⟩⟩
   ·rw [if_neg c7] at H
    have c7b0 : (a0_1 == a1_1) = false := beq_eq_false_iff_ne.mpr c7
    have c7b1 : (a0_1 != a1_1) = true := bne_iff_ne.mpr c7
    have H' := zc.mk H
    clear H
    have hnb19 := NB145_146.out
    have hnc19 := NB146_145.out
    have hcz20_0 : w5.cell? ⟨gb145, 0, none⟩ = some (.int .i64 a0_0) := (za BK145.out 0).trans rfl
    have hcz20_1 : w5.cell? ⟨gb145, 1, none⟩ = some (.int .i64 a0_1) := (za BK145.out 1).trans rfl
    have hcz20_2 : w5.cell? ⟨gb145, 2, none⟩ = some (.int .i64 a0_2) := (za BK145.out 2).trans rfl
    have hcz20_3 : w5.cell? ⟨gb145, 3, none⟩ = some (.int .i64 a0_3) := (za BK145.out 3).trans rfl
    have hcz20_4 : w5.cell? ⟨gb145, 4, none⟩ = some (.int .i64 a0_4) := (za BK145.out 4).trans rfl
    have hcz20_5 : w5.cell? ⟨gb145, 5, none⟩ = some (.slice A0_5 l0_5.length c0_5) := (za BK145.out 5).trans rfl
    have hcz20_6 : w5.cell? ⟨gb145, 6, none⟩ = some (.slice A0_6 l0_6.length c0_6) := (za BK145.out 6).trans rfl
    have hcz20_7 : w5.cell? ⟨gb145, 7, none⟩ = some (.slice A0_7 l0_7.length c0_7) := (za BK145.out 7).trans rfl
    have hcz20_8 : w5.cell? ⟨gb145, 8, none⟩ = some (.slice A0_8 l0_8.length c0_8) := (za BK145.out 8).trans rfl
    have hcz20_9 : w5.cell? ⟨gb145, 9, none⟩ = some (.slice A0_9 l0_9.length c0_9) := (za BK145.out 9).trans rfl
    have hfz20_0 := zb BK145.out 0
    have hfz20_1 := zb BK145.out 1
    have hfz20_2 := zb BK145.out 2
    have hfz20_3 := zb BK145.out 3
    have hfz20_4 := zb BK145.out 4
    have hfz20_5 := zb BK145.out 5
    have hfz20_6 := zb BK145.out 6
    have hfz20_7 := zb BK145.out 7
    have hfz20_8 := zb BK145.out 8
    have hfz20_9 := zb BK145.out 9
    have hcz21_0 : w5.cell? ⟨gb146, 0, none⟩ = some (.int .i64 a1_0) := (za BK146.out 0).trans rfl
    have hcz21_1 : w5.cell? ⟨gb146, 1, none⟩ = some (.int .i64 a1_1) := (za BK146.out 1).trans rfl
    have hcz21_2 : w5.cell? ⟨gb146, 2, none⟩ = some (.int .i64 a1_2) := (za BK146.out 2).trans rfl
    have hcz21_3 : w5.cell? ⟨gb146, 3, none⟩ = some (.int .i64 a1_3) := (za BK146.out 3).trans rfl
    have hcz21_4 : w5.cell? ⟨gb146, 4, none⟩ = some (.int .i64 a1_4) := (za BK146.out 4).trans rfl
    have hcz21_5 : w5.cell? ⟨gb146, 5, none⟩ = some (.slice A1_5 l1_5.length c1_5) := (za BK146.out 5).trans rfl
    have hcz21_6 : w5.cell? ⟨gb146, 6, none⟩ = some (.slice A1_6 l1_6.length c1_6) := (za BK146.out 6).trans rfl
    have hcz21_7 : w5.cell? ⟨gb146, 7, none⟩ = some (.slice A1_7 l1_7.length c1_7) := (za BK146.out 7).trans rfl
    have hcz21_8 : w5.cell? ⟨gb146, 8, none⟩ = some (.slice A1_8 l1_8.length c1_8) := (za BK146.out 8).trans rfl
    have hcz21_9 : w5.cell? ⟨gb146, 9, none⟩ = some (.slice A1_9 l1_9.length c1_9) := (za BK146.out 9).trans rfl
    have hfz21_0 := zb BK146.out 0
    have hfz21_1 := zb BK146.out 1
    have hfz21_2 := zb BK146.out 2
    have hfz21_3 := zb BK146.out 3
    have hfz21_4 := zb BK146.out 4
    have hfz21_5 := zb BK146.out 5
    have hfz21_6 := zb BK146.out 6
    have hfz21_7 := zb BK146.out 7
    have hfz21_8 := zb BK146.out 8
    have hfz21_9 := zb BK146.out 9
    go_wp2
    go_meet
    case rel => exact ⟨_, (false), (by first | rfl | (simp; done) | (simp [*]; done)), H', ⟨by first | omega | exact Nat.le_refl _⟩, ⟨by (with_reducible repeat (first | refine zh ?_ _ | refine zj ?_ | refine zi ?_ _)); exact BK145.out⟩, ⟨by (with_reducible repeat (first | refine zh ?_ _ | refine zj ?_ | refine zi ?_ _)); exact BK146.out⟩, ⟨by repeat (first | (with_reducible first | exact HB.out | apply zf | apply zd | apply ze | refine zg ?_ GE145.out | refine zg ?_ GE146.out) | exact HB.out)⟩⟩
  ·rw [if_neg c6] at H
   have c6b0 : (a0_0 == a1_0) = false := beq_eq_false_iff_ne.mpr c6
   have c6b1 : (a0_0 != a1_0) = true := bne_iff_ne.mpr c6
   (first | rw [c6b0] | (simp only [zl, zm]; rw [c6b0]) | skip)
   have H' := zc.mk H
   clear H
   have hnb22 := NB145_146.out
   have hnc22 := NB146_145.out
   have hcz23_0 : w5.cell? ⟨gb145, 0, none⟩ = some (.int .i64 a0_0) := (za BK145.out 0).trans rfl
   have hcz23_1 : w5.cell? ⟨gb145, 1, none⟩ = some (.int .i64 a0_1) := (za BK145.out 1).trans rfl
   have hcz23_2 : w5.cell? ⟨gb145, 2, none⟩ = some (.int .i64 a0_2) := (za BK145.out 2).trans rfl
   have hcz23_3 : w5.cell? ⟨gb145, 3, none⟩ = some (.int .i64 a0_3) := (za BK145.out 3).trans rfl
   have hcz23_4 : w5.cell? ⟨gb145, 4, none⟩ = some (.int .i64 a0_4) := (za BK145.out 4).trans rfl
   have hcz23_5 : w5.cell? ⟨gb145, 5, none⟩ = some (.slice A0_5 l0_5.length c0_5) := (za BK145.out 5).trans rfl
   have hcz23_6 : w5.cell? ⟨gb145, 6, none⟩ = some (.slice A0_6 l0_6.length c0_6) := (za BK145.out 6).trans rfl
   have hcz23_7 : w5.cell? ⟨gb145, 7, none⟩ = some (.slice A0_7 l0_7.length c0_7) := (za BK145.out 7).trans rfl
   have hcz23_8 : w5.cell? ⟨gb145, 8, none⟩ = some (.slice A0_8 l0_8.length c0_8) := (za BK145.out 8).trans rfl
   have hcz23_9 : w5.cell? ⟨gb145, 9, none⟩ = some (.slice A0_9 l0_9.length c0_9) := (za BK145.out 9).trans rfl
   have hfz23_0 := zb BK145.out 0
   have hfz23_1 := zb BK145.out 1
   have hfz23_2 := zb BK145.out 2
   have hfz23_3 := zb BK145.out 3
   have hfz23_4 := zb BK145.out 4
   have hfz23_5 := zb BK145.out 5
   have hfz23_6 := zb BK145.out 6
   have hfz23_7 := zb BK145.out 7
   have hfz23_8 := zb BK145.out 8
   have hfz23_9 := zb BK145.out 9
   have hcz24_0 : w5.cell? ⟨gb146, 0, none⟩ = some (.int .i64 a1_0) := (za BK146.out 0).trans rfl
   have hcz24_1 : w5.cell? ⟨gb146, 1, none⟩ = some (.int .i64 a1_1) := (za BK146.out 1).trans rfl
   have hcz24_2 : w5.cell? ⟨gb146, 2, none⟩ = some (.int .i64 a1_2) := (za BK146.out 2).trans rfl
   have hcz24_3 : w5.cell? ⟨gb146, 3, none⟩ = some (.int .i64 a1_3) := (za BK146.out 3).trans rfl
   have hcz24_4 : w5.cell? ⟨gb146, 4, none⟩ = some (.int .i64 a1_4) := (za BK146.out 4).trans rfl
   have hcz24_5 : w5.cell? ⟨gb146, 5, none⟩ = some (.slice A1_5 l1_5.length c1_5) := (za BK146.out 5).trans rfl
   have hcz24_6 : w5.cell? ⟨gb146, 6, none⟩ = some (.slice A1_6 l1_6.length c1_6) := (za BK146.out 6).trans rfl
   have hcz24_7 : w5.cell? ⟨gb146, 7, none⟩ = some (.slice A1_7 l1_7.length c1_7) := (za BK146.out 7).trans rfl
   have hcz24_8 : w5.cell? ⟨gb146, 8, none⟩ = some (.slice A1_8 l1_8.length c1_8) := (za BK146.out 8).trans rfl
   have hcz24_9 : w5.cell? ⟨gb146, 9, none⟩ = some (.slice A1_9 l1_9.length c1_9) := (za BK146.out 9).trans rfl
   have hfz24_0 := zb BK146.out 0
   have hfz24_1 := zb BK146.out 1
   have hfz24_2 := zb BK146.out 2
   have hfz24_3 := zb BK146.out 3
   have hfz24_4 := zb BK146.out 4
   have hfz24_5 := zb BK146.out 5
   have hfz24_6 := zb BK146.out 6
   have hfz24_7 := zb BK146.out 7
   have hfz24_8 := zb BK146.out 8
   have hfz24_9 := zb BK146.out 9
   go_wp2
   go_meet
   case rel => exact ⟨_, (false), (by first | rfl | (simp; done) | (simp [*]; done)), H', ⟨by first | omega | exact Nat.le_refl _⟩, ⟨by (with_reducible repeat (first | refine zh ?_ _ | refine zj ?_ | refine zi ?_ _)); exact BK145.out⟩, ⟨by (with_reducible repeat (first | refine zh ?_ _ | refine zj ?_ | refine zi ?_ _)); exact BK146.out⟩, ⟨by repeat (first | (with_reducible first | exact HB.out | apply zf | apply zd | apply ze | refine zg ?_ GE145.out | refine zg ?_ GE146.out) | exact HB.out)⟩⟩
 case rest =>
  clear HC3
  try clear c1
  try clear c2
  try clear p2
  try clear c6
  try clear c6b0
  try clear c6b1
  try clear c7
  try clear c7b0
  try clear c7b1
  try clear c8
  try clear c8b0
  try clear c8b1
  try clear c9
  try clear c9b0
  try clear c9b1
  try clear c10
  try clear c13
  try clear c15
  try clear c16
  try clear c19
  try clear c22
  try clear hcz11_0
  try clear hcz11_1
  try clear hcz11_2
  try clear hcz11_3
  try clear hcz11_4
  try clear hcz11_5
  try clear hcz11_6
  try clear hcz11_7
  try clear hcz11_8
  try clear hcz11_9
  try clear hcz12_0
  try clear hcz12_1
  try clear hcz12_2
  try clear hcz12_3
  try clear hcz12_4
  try clear hcz12_5
  try clear hcz12_6
  try clear hcz12_7
  try clear hcz12_8
  try clear hcz12_9
  try clear hcz14_0
  try clear hcz14_1
  try clear hcz14_2
  try clear hcz14_3
  try clear hcz14_4
  try clear hcz14_5
  try clear hcz14_6
  try clear hcz14_7
  try clear hcz14_8
  try clear hcz14_9
  try clear hcz15_0
  try clear hcz15_1
  try clear hcz15_2
  try clear hcz15_3
  try clear hcz15_4
  try clear hcz15_5
  try clear hcz15_6
  try clear hcz15_7
  try clear hcz15_8
  try clear hcz15_9
  try clear hcz17_0
  try clear hcz17_1
  try clear hcz17_2
  try clear hcz17_3
  try clear hcz17_4
  try clear hcz17_5
  try clear hcz17_6
  try clear hcz17_7
  try clear hcz17_8
  try clear hcz17_9
  try clear hcz18_0
  try clear hcz18_1
  try clear hcz18_2
  try clear hcz18_3
  try clear hcz18_4
  try clear hcz18_5
  try clear hcz18_6
  try clear hcz18_7
  try clear hcz18_8
  try clear hcz18_9
  try clear hcz20_0
  try clear hcz20_1
  try clear hcz20_2
  try clear hcz20_3
  try clear hcz20_4
  try clear hcz20_5
  try clear hcz20_6
  try clear hcz20_7
  try clear hcz20_8
  try clear hcz20_9
  try clear hcz21_0
  try clear hcz21_1
  try clear hcz21_2
  try clear hcz21_3
  try clear hcz21_4
  try clear hcz21_5
  try clear hcz21_6
  try clear hcz21_7
  try clear hcz21_8
  try clear hcz21_9
  try clear hcz23_0
  try clear hcz23_1
  try clear hcz23_2
  try clear hcz23_3
  try clear hcz23_4
  try clear hcz23_5
  try clear hcz23_6
  try clear hcz23_7
  try clear hcz23_8
  try clear hcz23_9
  try clear hcz24_0
  try clear hcz24_1
  try clear hcz24_2
  try clear hcz24_3
  try clear hcz24_4
  try clear hcz24_5
  try clear hcz24_6
  try clear hcz24_7
  try clear hcz24_8
  try clear hcz24_9
  try clear hfz11_0
  try clear hfz11_1
  try clear hfz11_2
  try clear hfz11_3
  try clear hfz11_4
  try clear hfz11_5
  try clear hfz11_6
  try clear hfz11_7
  try clear hfz11_8
  try clear hfz11_9
  try clear hfz12_0
  try clear hfz12_1
  try clear hfz12_2
  try clear hfz12_3
  try clear hfz12_4
  try clear hfz12_5
  try clear hfz12_6
  try clear hfz12_7
  try clear hfz12_8
  try clear hfz12_9
  try clear hfz14_0
  try clear hfz14_1
  try clear hfz14_2
  try clear hfz14_3
  try clear hfz14_4
  try clear hfz14_5
  try clear hfz14_6
  try clear hfz14_7
  try clear hfz14_8
  try clear hfz14_9
  try clear hfz15_0
  try clear hfz15_1
  try clear hfz15_2
  try clear hfz15_3
  try clear hfz15_4
  try clear hfz15_5
  try clear hfz15_6
  try clear hfz15_7
  try clear hfz15_8
  try clear hfz15_9
  try clear hfz17_0
  try clear hfz17_1
  try clear hfz17_2
  try clear hfz17_3
  try clear hfz17_4
  try clear hfz17_5
  try clear hfz17_6
  try clear hfz17_7
  try clear hfz17_8
  try clear hfz17_9
  try clear hfz18_0
  try clear hfz18_1
  try clear hfz18_2
  try clear hfz18_3
  try clear hfz18_4
  try clear hfz18_5
  try clear hfz18_6
  try clear hfz18_7
  try clear hfz18_8
  try clear hfz18_9
  try clear hfz20_0
  try clear hfz20_1
  try clear hfz20_2
  try clear hfz20_3
  try clear hfz20_4
  try clear hfz20_5
  try clear hfz20_6
  try clear hfz20_7
  try clear hfz20_8
  try clear hfz20_9
  try clear hfz21_0
  try clear hfz21_1
  try clear hfz21_2
  try clear hfz21_3
  try clear hfz21_4
  try clear hfz21_5
  try clear hfz21_6
  try clear hfz21_7
  try clear hfz21_8
  try clear hfz21_9
  try clear hfz23_0
  try clear hfz23_1
  try clear hfz23_2
  try clear hfz23_3
  try clear hfz23_4
  try clear hfz23_5
  try clear hfz23_6
  try clear hfz23_7
  try clear hfz23_8
  try clear hfz23_9
  try clear hfz24_0
  try clear hfz24_1
  try clear hfz24_2
  try clear hfz24_3
  try clear hfz24_4
  try clear hfz24_5
  try clear hfz24_6
  try clear hfz24_7
  try clear hfz24_8
  try clear hfz24_9
  obtain ⟨kq, x5_2, rfl, HA, HJ2, BK145, BK146, HB⟩ := hcut
  cases kq with
  | zero => exact absurd HA.out (by simp [zH.j0])
  | succ kj2 =>
   have H := HA.out
   clear HA
   simp only [zH.j0] at H
   by_cases c25 : x5_2 = true
   ·subst c25
    have H1 : ((zP.f kj2 l0_5 l1_5).bind fun t147 => (if t147 = true then ((yb.f kj2 l0_9 l1_9).bind fun t148 => (if t148 = true then ((z5.f kj2 l0_6 l1_6).bind fun t149 => (if t149 = true then ((zY.f kj2 l0_7 l1_7).bind fun t150 => (if t150 = true then ((zX.f kj2 l0_8 l1_8).bind fun t151 => (some t151)) else (some false))) else (some false))) else (some false))) else (some false))) = some r := by rw [if_pos rfl] at H; exact H
    clear H
    have H := H1
    clear H1
    replace H := Zi.mp H
    obtain ⟨t147, A260, H⟩ := H
    replace H : (if t147 = true then ((yb.f kj2 l0_9 l1_9).bind fun t148 => (if t148 = true then ((z5.f kj2 l0_6 l1_6).bind fun t149 => (if t149 = true then ((zY.f kj2 l0_7 l1_7).bind fun t150 => (if t150 = true then ((zX.f kj2 l0_8 l1_8).bind fun t151 => (some t151)) else (some false))) else (some false))) else (some false))) else (some false)) = some r := H
    have A26 := zc.mk A260
    clear A260
    by_cases c27 : t147 = true
    ·subst c27
     have H1 : ((yb.f kj2 l0_9 l1_9).bind fun t148 => (if t148 = true then ((z5.f kj2 l0_6 l1_6).bind fun t149 => (if t149 = true then ((zY.f kj2 l0_7 l1_7).bind fun t150 => (if t150 = true then ((zX.f kj2 l0_8 l1_8).bind fun t151 => (some t151)) else (some false))) else (some false))) else (some false))) = some r := by rw [if_pos rfl] at H; exact H
     clear H
     have H := H1
     clear H1
     replace H := Zi.mp H
     obtain ⟨t148, A280, H⟩ := H
     replace H : (if t148 = true then ((z5.f kj2 l0_6 l1_6).bind fun t149 => (if t149 = true then ((zY.f kj2 l0_7 l1_7).bind fun t150 => (if t150 = true then ((zX.f kj2 l0_8 l1_8).bind fun t151 => (some t151)) else (some false))) else (some false))) else (some false)) = some r := H
     have A28 := zc.mk A280
     clear A280
     by_cases c29 : t148 = true
     ·subst c29
      have H1 : ((z5.f kj2 l0_6 l1_6).bind fun t149 => (if t149 = true then ((zY.f kj2 l0_7 l1_7).bind fun t150 => (if t150 = true then ((zX.f kj2 l0_8 l1_8).bind fun t151 => (some t151)) else (some false))) else (some false))) = some r := by rw [if_pos rfl] at H; exact H
      clear H
      have H := H1
      clear H1
      replace H := Zi.mp H
      obtain ⟨t149, A300, H⟩ := H
      replace H : (if t149 = true then ((zY.f kj2 l0_7 l1_7).bind fun t150 => (if t150 = true then ((zX.f kj2 l0_8 l1_8).bind fun t151 => (some t151)) else (some false))) else (some false)) = some r := H
      have A30 := zc.mk A300
      clear A300
      by_cases c31 : t149 = true
      ·subst c31
       have H1 : ((zY.f kj2 l0_7 l1_7).bind fun t150 => (if t150 = true then ((zX.f kj2 l0_8 l1_8).bind fun t151 => (some t151)) else (some false))) = some r := by rw [if_pos rfl] at H; exact H
       clear H
       have H := H1
       clear H1
       replace H := Zi.mp H
       obtain ⟨t150, A320, H⟩ := H
       replace H : (if t150 = true then ((zX.f kj2 l0_8 l1_8).bind fun t151 => (some t151)) else (some false)) = some r := H
       have A32 := zc.mk A320
       clear A320
       by_cases c33 : t150 = true
       ·subst c33
        have H1 : ((zX.f kj2 l0_8 l1_8).bind fun t151 => (some t151)) = some r := by rw [if_pos rfl] at H; exact H
        clear H
        have H := H1
        clear H1
        replace H := Zi.mp H
        obtain ⟨t151, A340, H⟩ := H
        replace H : (some t151) = some r := H
        have A34 := zc.mk A340
        clear A340
        obtain rfl := Option.some.inj H
        have hnb35 := NB145_146.out
        have hnc35 := NB146_145.out
        have hcz36_0 : wc.cell? ⟨gb145, 0, none⟩ = some (.int .i64 a0_0) := (za BK145.out 0).trans rfl
        have hcz36_1 : wc.cell? ⟨gb145, 1, none⟩ = some (.int .i64 a0_1) := (za BK145.out 1).trans rfl
        have hcz36_2 : wc.cell? ⟨gb145, 2, none⟩ = some (.int .i64 a0_2) := (za BK145.out 2).trans rfl
        have hcz36_3 : wc.cell? ⟨gb145, 3, none⟩ = some (.int .i64 a0_3) := (za BK145.out 3).trans rfl
        have hcz36_4 : wc.cell? ⟨gb145, 4, none⟩ = some (.int .i64 a0_4) := (za BK145.out 4).trans rfl
        have hcz36_5 : wc.cell? ⟨gb145, 5, none⟩ = some (.slice A0_5 l0_5.length c0_5) := (za BK145.out 5).trans rfl
        have hcz36_6 : wc.cell? ⟨gb145, 6, none⟩ = some (.slice A0_6 l0_6.length c0_6) := (za BK145.out 6).trans rfl
        have hcz36_7 : wc.cell? ⟨gb145, 7, none⟩ = some (.slice A0_7 l0_7.length c0_7) := (za BK145.out 7).trans rfl
        have hcz36_8 : wc.cell? ⟨gb145, 8, none⟩ = some (.slice A0_8 l0_8.length c0_8) := (za BK145.out 8).trans rfl
        have hcz36_9 : wc.cell? ⟨gb145, 9, none⟩ = some (.slice A0_9 l0_9.length c0_9) := (za BK145.out 9).trans rfl
        have hfz36_0 := zb BK145.out 0
        have hfz36_1 := zb BK145.out 1
        have hfz36_2 := zb BK145.out 2
        have hfz36_3 := zb BK145.out 3
        have hfz36_4 := zb BK145.out 4
        have hfz36_5 := zb BK145.out 5
        have hfz36_6 := zb BK145.out 6
        have hfz36_7 := zb BK145.out 7
        have hfz36_8 := zb BK145.out 8
        have hfz36_9 := zb BK145.out 9
        have hcz37_0 : wc.cell? ⟨gb146, 0, none⟩ = some (.int .i64 a1_0) := (za BK146.out 0).trans rfl
        have hcz37_1 : wc.cell? ⟨gb146, 1, none⟩ = some (.int .i64 a1_1) := (za BK146.out 1).trans rfl
        have hcz37_2 : wc.cell? ⟨gb146, 2, none⟩ = some (.int .i64 a1_2) := (za BK146.out 2).trans rfl
        have hcz37_3 : wc.cell? ⟨gb146, 3, none⟩ = some (.int .i64 a1_3) := (za BK146.out 3).trans rfl
        have hcz37_4 : wc.cell? ⟨gb146, 4, none⟩ = some (.int .i64 a1_4) := (za BK146.out 4).trans rfl
        have hcz37_5 : wc.cell? ⟨gb146, 5, none⟩ = some (.slice A1_5 l1_5.length c1_5) := (za BK146.out 5).trans rfl
        have hcz37_6 : wc.cell? ⟨gb146, 6, none⟩ = some (.slice A1_6 l1_6.length c1_6) := (za BK146.out 6).trans rfl
        have hcz37_7 : wc.cell? ⟨gb146, 7, none⟩ = some (.slice A1_7 l1_7.length c1_7) := (za BK146.out 7).trans rfl
        have hcz37_8 : wc.cell? ⟨gb146, 8, none⟩ = some (.slice A1_8 l1_8.length c1_8) := (za BK146.out 8).trans rfl
        have hcz37_9 : wc.cell? ⟨gb146, 9, none⟩ = some (.slice A1_9 l1_9.length c1_9) := (za BK146.out 9).trans rfl
        have hfz37_0 := zb BK146.out 0
        have hfz37_1 := zb BK146.out 1
        have hfz37_2 := zb BK146.out 2
        have hfz37_3 := zb BK146.out 3
        have hfz37_4 := zb BK146.out 4
        have hfz37_5 := zb BK146.out 5
        have hfz37_6 := zb BK146.out 6
        have hfz37_7 := zb BK146.out 7
        have hfz37_8 := zb BK146.out 8
        have hfz37_9 := zb BK146.out 9
        go_wp2_with (first | (go_at_call 45; (with_reducible refine (zP.calls kj2 _ _ l0_5 _ _ l1_5 true _ ?side1 ?side2 ?side3 ?side4 A26.out).mono ?_); (case side1 => repeat (first | exact (Kd.C_below HR0_5.out HB.out) | (with_reducible refine Kd.C_alloc ?_ _) | (with_reducible refine Kd.C_drewN ?_ _) | (with_reducible refine Kd.C_drew ?_))); (case side2 => exact HC0_5.out); (case side3 => repeat (first | exact (Kd.C_below HR1_5.out HB.out) | (with_reducible refine Kd.C_alloc ?_ _) | (with_reducible refine Kd.C_drewN ?_ _) | (with_reducible refine Kd.C_drew ?_))); (case side4 => exact HC1_5.out); rintro e w' ⟨rfl, ⟨nd, rfl⟩⟩) | (go_at_call 46; (with_reducible refine (yb.calls kj2 _ _ l0_9 _ _ l1_9 true _ ?side1 ?side2 ?side3 ?side4 A28.out).mono ?_); (case side1 => repeat (first | exact (Kd.C_below HR0_9.out (by repeat (first | (with_reducible first | exact HB.out | apply zf | apply zd | apply ze | refine zg ?_ GE145.out | refine zg ?_ GE146.out) | exact HB.out))) | (with_reducible refine Kd.C_alloc ?_ _) | (with_reducible refine Kd.C_drewN ?_ _) | (with_reducible refine Kd.C_drew ?_))); (case side2 => exact HC0_9.out); (case side3 => repeat (first | exact (Kd.C_below HR1_9.out (by repeat (first | (with_reducible first | exact HB.out | apply zf | apply zd | apply ze | refine zg ?_ GE145.out | refine zg ?_ GE146.out) | exact HB.out))) | (with_reducible refine Kd.C_alloc ?_ _) | (with_reducible refine Kd.C_drewN ?_ _) | (with_reducible refine Kd.C_drew ?_))); (case side4 => exact HC1_9.out); rintro e w' ⟨rfl, ⟨nd, rfl⟩⟩) | (go_at_call 47; (with_reducible refine (z5.calls kj2 _ _ l0_6 _ _ l1_6 true _ ?side1 ?side2 ?side3 ?side4 A30.out).mono ?_); (case side1 => repeat (first | exact (Kd.C_below HR0_6.out (by repeat (first | (with_reducible first | exact HB.out | apply zf | apply zd | apply ze | refine zg ?_ GE145.out | refine zg ?_ GE146.out) | exact HB.out))) | (with_reducible refine Kd.C_alloc ?_ _) | (with_reducible refine Kd.C_drewN ?_ _) | (with_reducible refine Kd.C_drew ?_))); (case side2 => exact HC0_6.out); (case side3 => repeat (first | exact (Kd.C_below HR1_6.out (by repeat (first | (with_reducible first | exact HB.out | apply zf | apply zd | apply ze | refine zg ?_ GE145.out | refine zg ?_ GE146.out) | exact HB.out))) | (with_reducible refine Kd.C_alloc ?_ _) | (with_reducible refine Kd.C_drewN ?_ _) | (with_reducible refine Kd.C_drew ?_))); (case side4 => exact HC1_6.out); rintro e w38 ⟨rfl, hb⟩; have n0_ := zc.mk (zx (g := gb145) (o := .cells #[.int .i64 a0_0, .int .i64 a0_1, .int .i64 a0_2, .int .i64 a0_3, .int .i64 a0_4, .slice A0_5 l0_5.length c0_5, .slice A0_6 l0_6.length c0_6, .slice A0_7 l0_7.length c0_7, .slice A0_8 l0_8.length c0_8, .slice A0_9 l0_9.length c0_9] 28 (0, 0)) (by (with_reducible repeat (first | refine zh ?_ _ | refine zj ?_ | refine zi ?_ _)); exact BK145.out) hb); have n1_ := zc.mk (zx (g := gb146) (o := .cells #[.int .i64 a1_0, .int .i64 a1_1, .int .i64 a1_2, .int .i64 a1_3, .int .i64 a1_4, .slice A1_5 l1_5.length c1_5, .slice A1_6 l1_6.length c1_6, .slice A1_7 l1_7.length c1_7, .slice A1_8 l1_8.length c1_8, .slice A1_9 l1_9.length c1_9] 28 (0, 0)) (by (with_reducible repeat (first | refine zh ?_ _ | refine zj ?_ | refine zi ?_ _)); exact BK146.out) hb); have n2_ := zc.mk (zs (by repeat (first | (with_reducible first | exact HB.out | apply zf | apply zd | apply ze | refine zg ?_ GE145.out | refine zg ?_ GE146.out) | exact HB.out)) hb); clear BK145; clear BK146; clear HB; have BK145 := n0_; have BK146 := n1_; have HB := n2_; clear n0_ n1_ n2_; (try clear hb); (try clear hb2); (try clear hk); (try clear hi); have hcz39_0 : w38.cell? ⟨gb145, 0, none⟩ = some (.int .i64 a0_0) := (za BK145.out 0).trans rfl; have hcz39_1 : w38.cell? ⟨gb145, 1, none⟩ = some (.int .i64 a0_1) := (za BK145.out 1).trans rfl; have hcz39_2 : w38.cell? ⟨gb145, 2, none⟩ = some (.int .i64 a0_2) := (za BK145.out 2).trans rfl; have hcz39_3 : w38.cell? ⟨gb145, 3, none⟩ = some (.int .i64 a0_3) := (za BK145.out 3).trans rfl; have hcz39_4 : w38.cell? ⟨gb145, 4, none⟩ = some (.int .i64 a0_4) := (za BK145.out 4).trans rfl; have hcz39_5 : w38.cell? ⟨gb145, 5, none⟩ = some (.slice A0_5 l0_5.length c0_5) := (za BK145.out 5).trans rfl; have hcz39_6 : w38.cell? ⟨gb145, 6, none⟩ = some (.slice A0_6 l0_6.length c0_6) := (za BK145.out 6).trans rfl; have hcz39_7 : w38.cell? ⟨gb145, 7, none⟩ = some (.slice A0_7 l0_7.length c0_7) := (za BK145.out 7).trans rfl; have hcz39_8 : w38.cell? ⟨gb145, 8, none⟩ = some (.slice A0_8 l0_8.length c0_8) := (za BK145.out 8).trans rfl; have hcz39_9 : w38.cell? ⟨gb145, 9, none⟩ = some (.slice A0_9 l0_9.length c0_9) := (za BK145.out 9).trans rfl; have hfz39_0 := zb BK145.out 0; have hfz39_1 := zb BK145.out 1; have hfz39_2 := zb BK145.out 2; have hfz39_3 := zb BK145.out 3; have hfz39_4 := zb BK145.out 4; have hfz39_5 := zb BK145.out 5; have hfz39_6 := zb BK145.out 6; have hfz39_7 := zb BK145.out 7; have hfz39_8 := zb BK145.out 8; have hfz39_9 := zb BK145.out 9; have hcz40_0 : w38.cell? ⟨gb146, 0, none⟩ = some (.int .i64 a1_0) := (za BK146.out 0).trans rfl; have hcz40_1 : w38.cell? ⟨gb146, 1, none⟩ = some (.int .i64 a1_1) := (za BK146.out 1).trans rfl; have hcz40_2 : w38.cell? ⟨gb146, 2, none⟩ = some (.int .i64 a1_2) := (za BK146.out 2).trans rfl; have hcz40_3 : w38.cell? ⟨gb146, 3, none⟩ = some (.int .i64 a1_3) := (za BK146.out 3).trans rfl; have hcz40_4 : w38.cell? ⟨gb146, 4, none⟩ = some (.int .i64 a1_4) := (za BK146.out 4).trans rfl; have hcz40_5 : w38.cell? ⟨gb146, 5, none⟩ = some (.slice A1_5 l1_5.length c1_5) := (za BK146.out 5).trans rfl; have hcz40_6 : w38.cell? ⟨gb146, 6, none⟩ = some (.slice A1_6 l1_6.length c1_6) := (za BK146.out 6).trans rfl; have hcz40_7 : w38.cell? ⟨gb146, 7, none⟩ = some (.slice A1_7 l1_7.length c1_7) := (za BK146.out 7).trans rfl; have hcz40_8 : w38.cell? ⟨gb146, 8, none⟩ = some (.slice A1_8 l1_8.length c1_8) := (za BK146.out 8).trans rfl; have hcz40_9 : w38.cell? ⟨gb146, 9, none⟩ = some (.slice A1_9 l1_9.length c1_9) := (za BK146.out 9).trans rfl; have hfz40_0 := zb BK146.out 0; have hfz40_1 := zb BK146.out 1; have hfz40_2 := zb BK146.out 2; have hfz40_3 := zb BK146.out 3; have hfz40_4 := zb BK146.out 4; have hfz40_5 := zb BK146.out 5; have hfz40_6 := zb BK146.out 6; have hfz40_7 := zb BK146.out 7; have hfz40_8 := zb BK146.out 8; have hfz40_9 := zb BK146.out 9) | (go_at_call 49; (with_reducible refine (zY.calls kj2 _ _ l0_7 _ _ l1_7 true _ ?side1 ?side2 ?side3 ?side4 A32.out).mono ?_); (case side1 => repeat (first | exact (Kd.C_below HR0_7.out HB.out) | (with_reducible refine Kd.C_alloc ?_ _) | (with_reducible refine Kd.C_drewN ?_ _) | (with_reducible refine Kd.C_drew ?_))); (case side2 => exact HC0_7.out); (case side3 => repeat (first | exact (Kd.C_below HR1_7.out HB.out) | (with_reducible refine Kd.C_alloc ?_ _) | (with_reducible refine Kd.C_drewN ?_ _) | (with_reducible refine Kd.C_drew ?_))); (case side4 => exact HC1_7.out); rintro e w41 ⟨rfl, hb⟩; have n0_ := zc.mk (zx (g := gb145) (o := .cells #[.int .i64 a0_0, .int .i64 a0_1, .int .i64 a0_2, .int .i64 a0_3, .int .i64 a0_4, .slice A0_5 l0_5.length c0_5, .slice A0_6 l0_6.length c0_6, .slice A0_7 l0_7.length c0_7, .slice A0_8 l0_8.length c0_8, .slice A0_9 l0_9.length c0_9] 28 (0, 0)) (by (with_reducible repeat (first | refine zh ?_ _ | refine zj ?_ | refine zi ?_ _)); exact BK145.out) hb); have n1_ := zc.mk (zx (g := gb146) (o := .cells #[.int .i64 a1_0, .int .i64 a1_1, .int .i64 a1_2, .int .i64 a1_3, .int .i64 a1_4, .slice A1_5 l1_5.length c1_5, .slice A1_6 l1_6.length c1_6, .slice A1_7 l1_7.length c1_7, .slice A1_8 l1_8.length c1_8, .slice A1_9 l1_9.length c1_9] 28 (0, 0)) (by (with_reducible repeat (first | refine zh ?_ _ | refine zj ?_ | refine zi ?_ _)); exact BK146.out) hb); have n2_ := zc.mk (zs (by repeat (first | (with_reducible first | exact HB.out | apply zf | apply zd | apply ze | refine zg ?_ GE145.out | refine zg ?_ GE146.out) | exact HB.out)) hb); clear BK145; clear BK146; clear HB; have BK145 := n0_; have BK146 := n1_; have HB := n2_; clear n0_ n1_ n2_; (try clear hb); (try clear hb2); (try clear hk); (try clear hi); have hcz42_0 : w41.cell? ⟨gb145, 0, none⟩ = some (.int .i64 a0_0) := (za BK145.out 0).trans rfl; have hcz42_1 : w41.cell? ⟨gb145, 1, none⟩ = some (.int .i64 a0_1) := (za BK145.out 1).trans rfl; have hcz42_2 : w41.cell? ⟨gb145, 2, none⟩ = some (.int .i64 a0_2) := (za BK145.out 2).trans rfl; have hcz42_3 : w41.cell? ⟨gb145, 3, none⟩ = some (.int .i64 a0_3) := (za BK145.out 3).trans rfl; have hcz42_4 : w41.cell? ⟨gb145, 4, none⟩ = some (.int .i64 a0_4) := (za BK145.out 4).trans rfl; have hcz42_5 : w41.cell? ⟨gb145, 5, none⟩ = some (.slice A0_5 l0_5.length c0_5) := (za BK145.out 5).trans rfl; have hcz42_6 : w41.cell? ⟨gb145, 6, none⟩ = some (.slice A0_6 l0_6.length c0_6) := (za BK145.out 6).trans rfl; have hcz42_7 : w41.cell? ⟨gb145, 7, none⟩ = some (.slice A0_7 l0_7.length c0_7) := (za BK145.out 7).trans rfl; have hcz42_8 : w41.cell? ⟨gb145, 8, none⟩ = some (.slice A0_8 l0_8.length c0_8) := (za BK145.out 8).trans rfl; have hcz42_9 : w41.cell? ⟨gb145, 9, none⟩ = some (.slice A0_9 l0_9.length c0_9) := (za BK145.out 9).trans rfl; have hfz42_0 := zb BK145.out 0; have hfz42_1 := zb BK145.out 1; have hfz42_2 := zb BK145.out 2; have hfz42_3 := zb BK145.out 3; have hfz42_4 := zb BK145.out 4; have hfz42_5 := zb BK145.out 5; have hfz42_6 := zb BK145.out 6; have hfz42_7 := zb BK145.out 7; have hfz42_8 := zb BK145.out 8; have hfz42_9 := zb BK145.out 9; have hcz43_0 : w41.cell? ⟨gb146, 0, none⟩ = some (.int .i64 a1_0) := (za BK146.out 0).trans rfl; have hcz43_1 : w41.cell? ⟨gb146, 1, none⟩ = some (.int .i64 a1_1) := (za BK146.out 1).trans rfl; have hcz43_2 : w41.cell? ⟨gb146, 2, none⟩ = some (.int .i64 a1_2) := (za BK146.out 2).trans rfl; have hcz43_3 : w41.cell? ⟨gb146, 3, none⟩ = some (.int .i64 a1_3) := (za BK146.out 3).trans rfl; have hcz43_4 : w41.cell? ⟨gb146, 4, none⟩ = some (.int .i64 a1_4) := (za BK146.out 4).trans rfl; have hcz43_5 : w41.cell? ⟨gb146, 5, none⟩ = some (.slice A1_5 l1_5.length c1_5) := (za BK146.out 5).trans rfl; have hcz43_6 : w41.cell? ⟨gb146, 6, none⟩ = some (.slice A1_6 l1_6.length c1_6) := (za BK146.out 6).trans rfl; have hcz43_7 : w41.cell? ⟨gb146, 7, none⟩ = some (.slice A1_7 l1_7.length c1_7) := (za BK146.out 7).trans rfl; have hcz43_8 : w41.cell? ⟨gb146, 8, none⟩ = some (.slice A1_8 l1_8.length c1_8) := (za BK146.out 8).trans rfl; have hcz43_9 : w41.cell? ⟨gb146, 9, none⟩ = some (.slice A1_9 l1_9.length c1_9) := (za BK146.out 9).trans rfl; have hfz43_0 := zb BK146.out 0; have hfz43_1 := zb BK146.out 1; have hfz43_2 := zb BK146.out 2; have hfz43_3 := zb BK146.out 3; have hfz43_4 := zb BK146.out 4; have hfz43_5 := zb BK146.out 5; have hfz43_6 := zb BK146.out 6; have hfz43_7 := zb BK146.out 7; have hfz43_8 := zb BK146.out 8; have hfz43_9 := zb BK146.out 9) | (go_at_call 51; (with_reducible refine (zX.calls kj2 _ _ l0_8 _ _ l1_8 t151 _ ?side1 ?side2 ?side3 ?side4 A34.out).mono ?_); (case side1 => repeat (first | exact (Kd.C_below HR0_8.out HB.out) | (with_reducible refine Kd.C_alloc ?_ _) | (with_reducible refine Kd.C_drewN ?_ _) | (with_reducible refine Kd.C_drew ?_))); (case side2 => exact HC0_8.out); (case side3 => repeat (first | exact (Kd.C_below HR1_8.out HB.out) | (with_reducible refine Kd.C_alloc ?_ _) | (with_reducible refine Kd.C_drewN ?_ _) | (with_reducible refine Kd.C_drew ?_))); (case side4 => exact HC1_8.out); rintro e w44 ⟨rfl, hb⟩; have n0_ := zc.mk (zx (g := gb145) (o := .cells #[.int .i64 a0_0, .int .i64 a0_1, .int .i64 a0_2, .int .i64 a0_3, .int .i64 a0_4, .slice A0_5 l0_5.length c0_5, .slice A0_6 l0_6.length c0_6, .slice A0_7 l0_7.length c0_7, .slice A0_8 l0_8.length c0_8, .slice A0_9 l0_9.length c0_9] 28 (0, 0)) (by (with_reducible repeat (first | refine zh ?_ _ | refine zj ?_ | refine zi ?_ _)); exact BK145.out) hb); have n1_ := zc.mk (zx (g := gb146) (o := .cells #[.int .i64 a1_0, .int .i64 a1_1, .int .i64 a1_2, .int .i64 a1_3, .int .i64 a1_4, .slice A1_5 l1_5.length c1_5, .slice A1_6 l1_6.length c1_6, .slice A1_7 l1_7.length c1_7, .slice A1_8 l1_8.length c1_8, .slice A1_9 l1_9.length c1_9] 28 (0, 0)) (by (with_reducible repeat (first | refine zh ?_ _ | refine zj ?_ | refine zi ?_ _)); exact BK146.out) hb); have n2_ := zc.mk (zs (by repeat (first | (with_reducible first | exact HB.out | apply zf | apply zd | apply ze | refine zg ?_ GE145.out | refine zg ?_ GE146.out) | exact HB.out)) hb); clear BK145; clear BK146; clear HB; have BK145 := n0_; have BK146 := n1_; have HB := n2_; clear n0_ n1_ n2_; (try clear hb); (try clear hb2); (try clear hk); (try clear hi)))
        go_ret
        exact ⟨by first | rfl | (simp [zu, zv] <;> rfl) | (simp [*, zu, zv] <;> rfl), by repeat (first | (with_reducible first | exact HB.out | apply zf | apply zd | apply ze | refine zg ?_ GE145.out | refine zg ?_ GE146.out) | exact HB.out)⟩
       ·replace c33 := Zk.mpr c33
        subst c33
        have H1 : (some false) = some r := by rw [if_neg (show ¬ (false = true) by decide)] at H; exact H
        clear H
        have H := H1
        clear H1
        obtain rfl := Option.some.inj H
        have hnb45 := NB145_146.out
        have hnc45 := NB146_145.out
        have hcz46_0 : wc.cell? ⟨gb145, 0, none⟩ = some (.int .i64 a0_0) := (za BK145.out 0).trans rfl
        have hcz46_1 : wc.cell? ⟨gb145, 1, none⟩ = some (.int .i64 a0_1) := (za BK145.out 1).trans rfl
        have hcz46_2 : wc.cell? ⟨gb145, 2, none⟩ = some (.int .i64 a0_2) := (za BK145.out 2).trans rfl
        have hcz46_3 : wc.cell? ⟨gb145, 3, none⟩ = some (.int .i64 a0_3) := (za BK145.out 3).trans rfl
        have hcz46_4 : wc.cell? ⟨gb145, 4, none⟩ = some (.int .i64 a0_4) := (za BK145.out 4).trans rfl
        have hcz46_5 : wc.cell? ⟨gb145, 5, none⟩ = some (.slice A0_5 l0_5.length c0_5) := (za BK145.out 5).trans rfl
        have hcz46_6 : wc.cell? ⟨gb145, 6, none⟩ = some (.slice A0_6 l0_6.length c0_6) := (za BK145.out 6).trans rfl
        have hcz46_7 : wc.cell? ⟨gb145, 7, none⟩ = some (.slice A0_7 l0_7.length c0_7) := (za BK145.out 7).trans rfl
        have hcz46_8 : wc.cell? ⟨gb145, 8, none⟩ = some (.slice A0_8 l0_8.length c0_8) := (za BK145.out 8).trans rfl
        have hcz46_9 : wc.cell? ⟨gb145, 9, none⟩ = some (.slice A0_9 l0_9.length c0_9) := (za BK145.out 9).trans rfl
        have hfz46_0 := zb BK145.out 0
        have hfz46_1 := zb BK145.out 1
        have hfz46_2 := zb BK145.out 2
        have hfz46_3 := zb BK145.out 3
        have hfz46_4 := zb BK145.out 4
        have hfz46_5 := zb BK145.out 5
        have hfz46_6 := zb BK145.out 6
        have hfz46_7 := zb BK145.out 7
        have hfz46_8 := zb BK145.out 8
        have hfz46_9 := zb BK145.out 9
        have hcz47_0 : wc.cell? ⟨gb146, 0, none⟩ = some (.int .i64 a1_0) := (za BK146.out 0).trans rfl
        have hcz47_1 : wc.cell? ⟨gb146, 1, none⟩ = some (.int .i64 a1_1) := (za BK146.out 1).trans rfl
        have hcz47_2 : wc.cell? ⟨gb146, 2, none⟩ = some (.int .i64 a1_2) := (za BK146.out 2).trans rfl
        have hcz47_3 : wc.cell? ⟨gb146, 3, none⟩ = some (.int .i64 a1_3) := (za BK146.out 3).trans rfl
        have hcz47_4 : wc.cell? ⟨gb146, 4, none⟩ = some (.int .i64 a1_4) := (za BK146.out 4).trans rfl
        have hcz47_5 : wc.cell? ⟨gb146, 5, none⟩ = some (.slice A1_5 l1_5.length c1_5) := (za BK146.out 5).trans rfl
        have hcz47_6 : wc.cell? ⟨gb146, 6, none⟩ = some (.slice A1_6 l1_6.length c1_6) := (za BK146.out 6).trans rfl
        have hcz47_7 : wc.cell? ⟨gb146, 7, none⟩ = some (.slice A1_7 l1_7.length c1_7) := (za BK146.out 7).trans rfl
        have hcz47_8 : wc.cell? ⟨gb146, 8, none⟩ = some (.slice A1_8 l1_8.length c1_8) := (za BK146.out 8).trans rfl
        have hcz47_9 : wc.cell? ⟨gb146, 9, none⟩ = some (.slice A1_9 l1_9.length c1_9) := (za BK146.out 9).trans rfl
        have hfz47_0 := zb BK146.out 0
        have hfz47_1 := zb BK146.out 1
        have hfz47_2 := zb BK146.out 2
        have hfz47_3 := zb BK146.out 3
        have hfz47_4 := zb BK146.out 4
        have hfz47_5 := zb BK146.out 5
        have hfz47_6 := zb BK146.out 6
        have hfz47_7 := zb BK146.out 7
        have hfz47_8 := zb BK146.out 8
        have hfz47_9 := zb BK146.out 9
        go_wp2_with (first | (go_at_call 45; (with_reducible refine (zP.calls kj2 _ _ l0_5 _ _ l1_5 true _ ?side1 ?side2 ?side3 ?side4 A26.out).mono ?_); (case side1 => repeat (first | exact (Kd.C_below HR0_5.out HB.out) | (with_reducible refine Kd.C_alloc ?_ _) | (with_reducible refine Kd.C_drewN ?_ _) | (with_reducible refine Kd.C_drew ?_))); (case side2 => exact HC0_5.out); (case side3 => repeat (first | exact (Kd.C_below HR1_5.out HB.out) | (with_reducible refine Kd.C_alloc ?_ _) | (with_reducible refine Kd.C_drewN ?_ _) | (with_reducible refine Kd.C_drew ?_))); (case side4 => exact HC1_5.out); rintro e w' ⟨rfl, ⟨nd, rfl⟩⟩) | (go_at_call 46; (with_reducible refine (yb.calls kj2 _ _ l0_9 _ _ l1_9 true _ ?side1 ?side2 ?side3 ?side4 A28.out).mono ?_); (case side1 => repeat (first | exact (Kd.C_below HR0_9.out (by repeat (first | (with_reducible first | exact HB.out | apply zf | apply zd | apply ze | refine zg ?_ GE145.out | refine zg ?_ GE146.out) | exact HB.out))) | (with_reducible refine Kd.C_alloc ?_ _) | (with_reducible refine Kd.C_drewN ?_ _) | (with_reducible refine Kd.C_drew ?_))); (case side2 => exact HC0_9.out); (case side3 => repeat (first | exact (Kd.C_below HR1_9.out (by repeat (first | (with_reducible first | exact HB.out | apply zf | apply zd | apply ze | refine zg ?_ GE145.out | refine zg ?_ GE146.out) | exact HB.out))) | (with_reducible refine Kd.C_alloc ?_ _) | (with_reducible refine Kd.C_drewN ?_ _) | (with_reducible refine Kd.C_drew ?_))); (case side4 => exact HC1_9.out); rintro e w' ⟨rfl, ⟨nd, rfl⟩⟩) | (go_at_call 47; (with_reducible refine (z5.calls kj2 _ _ l0_6 _ _ l1_6 true _ ?side1 ?side2 ?side3 ?side4 A30.out).mono ?_); (case side1 => repeat (first | exact (Kd.C_below HR0_6.out (by repeat (first | (with_reducible first | exact HB.out | apply zf | apply zd | apply ze | refine zg ?_ GE145.out | refine zg ?_ GE146.out) | exact HB.out))) | (with_reducible refine Kd.C_alloc ?_ _) | (with_reducible refine Kd.C_drewN ?_ _) | (with_reducible refine Kd.C_drew ?_))); (case side2 => exact HC0_6.out); (case side3 => repeat (first | exact (Kd.C_below HR1_6.out (by repeat (first | (with_reducible first | exact HB.out | apply zf | apply zd | apply ze | refine zg ?_ GE145.out | refine zg ?_ GE146.out) | exact HB.out))) | (with_reducible refine Kd.C_alloc ?_ _) | (with_reducible refine Kd.C_drewN ?_ _) | (with_reducible refine Kd.C_drew ?_))); (case side4 => exact HC1_6.out); rintro e w48 ⟨rfl, hb⟩; have n0_ := zc.mk (zx (g := gb145) (o := .cells #[.int .i64 a0_0, .int .i64 a0_1, .int .i64 a0_2, .int .i64 a0_3, .int .i64 a0_4, .slice A0_5 l0_5.length c0_5, .slice A0_6 l0_6.length c0_6, .slice A0_7 l0_7.length c0_7, .slice A0_8 l0_8.length c0_8, .slice A0_9 l0_9.length c0_9] 28 (0, 0)) (by (with_reducible repeat (first | refine zh ?_ _ | refine zj ?_ | refine zi ?_ _)); exact BK145.out) hb); have n1_ := zc.mk (zx (g := gb146) (o := .cells #[.int .i64 a1_0, .int .i64 a1_1, .int .i64 a1_2, .int .i64 a1_3, .int .i64 a1_4, .slice A1_5 l1_5.length c1_5, .slice A1_6 l1_6.length c1_6, .slice A1_7 l1_7.length c1_7, .slice A1_8 l1_8.length c1_8, .slice A1_9 l1_9.length c1_9] 28 (0, 0)) (by (with_reducible repeat (first | refine zh ?_ _ | refine zj ?_ | refine zi ?_ _)); exact BK146.out) hb); have n2_ := zc.mk (zs (by repeat (first | (with_reducible first | exact HB.out | apply zf | apply zd | apply ze | refine zg ?_ GE145.out | refine zg ?_ GE146.out) | exact HB.out)) hb); clear BK145; clear BK146; clear HB; have BK145 := n0_; have BK146 := n1_; have HB := n2_; clear n0_ n1_ n2_; (try clear hb); (try clear hb2); (try clear hk); (try clear hi); have hcz49_0 : w48.cell? ⟨gb145, 0, none⟩ = some (.int .i64 a0_0) := (za BK145.out 0).trans rfl; have hcz49_1 : w48.cell? ⟨gb145, 1, none⟩ = some (.int .i64 a0_1) := (za BK145.out 1).trans rfl; have hcz49_2 : w48.cell? ⟨gb145, 2, none⟩ = some (.int .i64 a0_2) := (za BK145.out 2).trans rfl; have hcz49_3 : w48.cell? ⟨gb145, 3, none⟩ = some (.int .i64 a0_3) := (za BK145.out 3).trans rfl; have hcz49_4 : w48.cell? ⟨gb145, 4, none⟩ = some (.int .i64 a0_4) := (za BK145.out 4).trans rfl; have hcz49_5 : w48.cell? ⟨gb145, 5, none⟩ = some (.slice A0_5 l0_5.length c0_5) := (za BK145.out 5).trans rfl; have hcz49_6 : w48.cell? ⟨gb145, 6, none⟩ = some (.slice A0_6 l0_6.length c0_6) := (za BK145.out 6).trans rfl; have hcz49_7 : w48.cell? ⟨gb145, 7, none⟩ = some (.slice A0_7 l0_7.length c0_7) := (za BK145.out 7).trans rfl; have hcz49_8 : w48.cell? ⟨gb145, 8, none⟩ = some (.slice A0_8 l0_8.length c0_8) := (za BK145.out 8).trans rfl; have hcz49_9 : w48.cell? ⟨gb145, 9, none⟩ = some (.slice A0_9 l0_9.length c0_9) := (za BK145.out 9).trans rfl; have hfz49_0 := zb BK145.out 0; have hfz49_1 := zb BK145.out 1; have hfz49_2 := zb BK145.out 2; have hfz49_3 := zb BK145.out 3; have hfz49_4 := zb BK145.out 4; have hfz49_5 := zb BK145.out 5; have hfz49_6 := zb BK145.out 6; have hfz49_7 := zb BK145.out 7; have hfz49_8 := zb BK145.out 8; have hfz49_9 := zb BK145.out 9; have hcz50_0 : w48.cell? ⟨gb146, 0, none⟩ = some (.int .i64 a1_0) := (za BK146.out 0).trans rfl; have hcz50_1 : w48.cell? ⟨gb146, 1, none⟩ = some (.int .i64 a1_1) := (za BK146.out 1).trans rfl; have hcz50_2 : w48.cell? ⟨gb146, 2, none⟩ = some (.int .i64 a1_2) := (za BK146.out 2).trans rfl; have hcz50_3 : w48.cell? ⟨gb146, 3, none⟩ = some (.int .i64 a1_3) := (za BK146.out 3).trans rfl; have hcz50_4 : w48.cell? ⟨gb146, 4, none⟩ = some (.int .i64 a1_4) := (za BK146.out 4).trans rfl; have hcz50_5 : w48.cell? ⟨gb146, 5, none⟩ = some (.slice A1_5 l1_5.length c1_5) := (za BK146.out 5).trans rfl; have hcz50_6 : w48.cell? ⟨gb146, 6, none⟩ = some (.slice A1_6 l1_6.length c1_6) := (za BK146.out 6).trans rfl; have hcz50_7 : w48.cell? ⟨gb146, 7, none⟩ = some (.slice A1_7 l1_7.length c1_7) := (za BK146.out 7).trans rfl; have hcz50_8 : w48.cell? ⟨gb146, 8, none⟩ = some (.slice A1_8 l1_8.length c1_8) := (za BK146.out 8).trans rfl; have hcz50_9 : w48.cell? ⟨gb146, 9, none⟩ = some (.slice A1_9 l1_9.length c1_9) := (za BK146.out 9).trans rfl; have hfz50_0 := zb BK146.out 0; have hfz50_1 := zb BK146.out 1; have hfz50_2 := zb BK146.out 2; have hfz50_3 := zb BK146.out 3; have hfz50_4 := zb BK146.out 4; have hfz50_5 := zb BK146.out 5; have hfz50_6 := zb BK146.out 6; have hfz50_7 := zb BK146.out 7; have hfz50_8 := zb BK146.out 8; have hfz50_9 := zb BK146.out 9) | (go_at_call 49; (with_reducible refine (zY.calls kj2 _ _ l0_7 _ _ l1_7 false _ ?side1 ?side2 ?side3 ?side4 A32.out).mono ?_); (case side1 => repeat (first | exact (Kd.C_below HR0_7.out HB.out) | (with_reducible refine Kd.C_alloc ?_ _) | (with_reducible refine Kd.C_drewN ?_ _) | (with_reducible refine Kd.C_drew ?_))); (case side2 => exact HC0_7.out); (case side3 => repeat (first | exact (Kd.C_below HR1_7.out HB.out) | (with_reducible refine Kd.C_alloc ?_ _) | (with_reducible refine Kd.C_drewN ?_ _) | (with_reducible refine Kd.C_drew ?_))); (case side4 => exact HC1_7.out); rintro e w51 ⟨rfl, hb⟩; have n0_ := zc.mk (zx (g := gb145) (o := .cells #[.int .i64 a0_0, .int .i64 a0_1, .int .i64 a0_2, .int .i64 a0_3, .int .i64 a0_4, .slice A0_5 l0_5.length c0_5, .slice A0_6 l0_6.length c0_6, .slice A0_7 l0_7.length c0_7, .slice A0_8 l0_8.length c0_8, .slice A0_9 l0_9.length c0_9] 28 (0, 0)) (by (with_reducible repeat (first | refine zh ?_ _ | refine zj ?_ | refine zi ?_ _)); exact BK145.out) hb); have n1_ := zc.mk (zx (g := gb146) (o := .cells #[.int .i64 a1_0, .int .i64 a1_1, .int .i64 a1_2, .int .i64 a1_3, .int .i64 a1_4, .slice A1_5 l1_5.length c1_5, .slice A1_6 l1_6.length c1_6, .slice A1_7 l1_7.length c1_7, .slice A1_8 l1_8.length c1_8, .slice A1_9 l1_9.length c1_9] 28 (0, 0)) (by (with_reducible repeat (first | refine zh ?_ _ | refine zj ?_ | refine zi ?_ _)); exact BK146.out) hb); have n2_ := zc.mk (zs (by repeat (first | (with_reducible first | exact HB.out | apply zf | apply zd | apply ze | refine zg ?_ GE145.out | refine zg ?_ GE146.out) | exact HB.out)) hb); clear BK145; clear BK146; clear HB; have BK145 := n0_; have BK146 := n1_; have HB := n2_; clear n0_ n1_ n2_; (try clear hb); (try clear hb2); (try clear hk); (try clear hi)))
        go_ret
        exact ⟨by first | rfl | (simp [zu, zv] <;> rfl) | (simp [*, zu, zv] <;> rfl), by repeat (first | (with_reducible first | exact HB.out | apply zf | apply zd | apply ze | refine zg ?_ GE145.out | refine zg ?_ GE146.out) | exact HB.out)⟩
      ·replace c31 := Zk.mpr c31
       subst c31
       have H1 : (some false) = some r := by rw [if_neg (show ¬ (false = true) by decide)] at H; exact H
       clear H
       have H := H1
       clear H1
       obtain rfl := Option.some.inj H
       have hnb52 := NB145_146.out
       have hnc52 := NB146_145.out
       have hcz53_0 : wc.cell? ⟨gb145, 0, none⟩ = some (.int .i64 a0_0) := (za BK145.out 0).trans rfl
       have hcz53_1 : wc.cell? ⟨gb145, 1, none⟩ = some (.int .i64 a0_1) := (za BK145.out 1).trans rfl
       have hcz53_2 : wc.cell? ⟨gb145, 2, none⟩ = some (.int .i64 a0_2) := (za BK145.out 2).trans rfl
       have hcz53_3 : wc.cell? ⟨gb145, 3, none⟩ = some (.int .i64 a0_3) := (za BK145.out 3).trans rfl
       have hcz53_4 : wc.cell? ⟨gb145, 4, none⟩ = some (.int .i64 a0_4) := (za BK145.out 4).trans rfl
       have hcz53_5 : wc.cell? ⟨gb145, 5, none⟩ = some (.slice A0_5 l0_5.length c0_5) := (za BK145.out 5).trans rfl
       have hcz53_6 : wc.cell? ⟨gb145, 6, none⟩ = some (.slice A0_6 l0_6.length c0_6) := (za BK145.out 6).trans rfl
       have hcz53_7 : wc.cell? ⟨gb145, 7, none⟩ = some (.slice A0_7 l0_7.length c0_7) := (za BK145.out 7).trans rfl
       have hcz53_8 : wc.cell? ⟨gb145, 8, none⟩ = some (.slice A0_8 l0_8.length c0_8) := (za BK145.out 8).trans rfl
       have hcz53_9 : wc.cell? ⟨gb145, 9, none⟩ = some (.slice A0_9 l0_9.length c0_9) := (za BK145.out 9).trans rfl
       have hfz53_0 := zb BK145.out 0
       have hfz53_1 := zb BK145.out 1
       have hfz53_2 := zb BK145.out 2
       have hfz53_3 := zb BK145.out 3
       have hfz53_4 := zb BK145.out 4
       have hfz53_5 := zb BK145.out 5
       have hfz53_6 := zb BK145.out 6
       have hfz53_7 := zb BK145.out 7
       have hfz53_8 := zb BK145.out 8
       have hfz53_9 := zb BK145.out 9
       have hcz54_0 : wc.cell? ⟨gb146, 0, none⟩ = some (.int .i64 a1_0) := (za BK146.out 0).trans rfl
       have hcz54_1 : wc.cell? ⟨gb146, 1, none⟩ = some (.int .i64 a1_1) := (za BK146.out 1).trans rfl
       have hcz54_2 : wc.cell? ⟨gb146, 2, none⟩ = some (.int .i64 a1_2) := (za BK146.out 2).trans rfl
       have hcz54_3 : wc.cell? ⟨gb146, 3, none⟩ = some (.int .i64 a1_3) := (za BK146.out 3).trans rfl
       have hcz54_4 : wc.cell? ⟨gb146, 4, none⟩ = some (.int .i64 a1_4) := (za BK146.out 4).trans rfl
       have hcz54_5 : wc.cell? ⟨gb146, 5, none⟩ = some (.slice A1_5 l1_5.length c1_5) := (za BK146.out 5).trans rfl
       have hcz54_6 : wc.cell? ⟨gb146, 6, none⟩ = some (.slice A1_6 l1_6.length c1_6) := (za BK146.out 6).trans rfl
       have hcz54_7 : wc.cell? ⟨gb146, 7, none⟩ = some (.slice A1_7 l1_7.length c1_7) := (za BK146.out 7).trans rfl
       have hcz54_8 : wc.cell? ⟨gb146, 8, none⟩ = some (.slice A1_8 l1_8.length c1_8) := (za BK146.out 8).trans rfl
       have hcz54_9 : wc.cell? ⟨gb146, 9, none⟩ = some (.slice A1_9 l1_9.length c1_9) := (za BK146.out 9).trans rfl
       have hfz54_0 := zb BK146.out 0
       have hfz54_1 := zb BK146.out 1
       have hfz54_2 := zb BK146.out 2
       have hfz54_3 := zb BK146.out 3
       have hfz54_4 := zb BK146.out 4
       have hfz54_5 := zb BK146.out 5
       have hfz54_6 := zb BK146.out 6
       have hfz54_7 := zb BK146.out 7
       have hfz54_8 := zb BK146.out 8
       have hfz54_9 := zb BK146.out 9
       go_wp2_with (first | (go_at_call 45; (with_reducible refine (zP.calls kj2 _ _ l0_5 _ _ l1_5 true _ ?side1 ?side2 ?side3 ?side4 A26.out).mono ?_); (case side1 => repeat (first | exact (Kd.C_below HR0_5.out HB.out) | (with_reducible refine Kd.C_alloc ?_ _) | (with_reducible refine Kd.C_drewN ?_ _) | (with_reducible refine Kd.C_drew ?_))); (case side2 => exact HC0_5.out); (case side3 => repeat (first | exact (Kd.C_below HR1_5.out HB.out) | (with_reducible refine Kd.C_alloc ?_ _) | (with_reducible refine Kd.C_drewN ?_ _) | (with_reducible refine Kd.C_drew ?_))); (case side4 => exact HC1_5.out); rintro e w' ⟨rfl, ⟨nd, rfl⟩⟩) | (go_at_call 46; (with_reducible refine (yb.calls kj2 _ _ l0_9 _ _ l1_9 true _ ?side1 ?side2 ?side3 ?side4 A28.out).mono ?_); (case side1 => repeat (first | exact (Kd.C_below HR0_9.out (by repeat (first | (with_reducible first | exact HB.out | apply zf | apply zd | apply ze | refine zg ?_ GE145.out | refine zg ?_ GE146.out) | exact HB.out))) | (with_reducible refine Kd.C_alloc ?_ _) | (with_reducible refine Kd.C_drewN ?_ _) | (with_reducible refine Kd.C_drew ?_))); (case side2 => exact HC0_9.out); (case side3 => repeat (first | exact (Kd.C_below HR1_9.out (by repeat (first | (with_reducible first | exact HB.out | apply zf | apply zd | apply ze | refine zg ?_ GE145.out | refine zg ?_ GE146.out) | exact HB.out))) | (with_reducible refine Kd.C_alloc ?_ _) | (with_reducible refine Kd.C_drewN ?_ _) | (with_reducible refine Kd.C_drew ?_))); (case side4 => exact HC1_9.out); rintro e w' ⟨rfl, ⟨nd, rfl⟩⟩) | (go_at_call 47; (with_reducible refine (z5.calls kj2 _ _ l0_6 _ _ l1_6 false _ ?side1 ?side2 ?side3 ?side4 A30.out).mono ?_); (case side1 => repeat (first | exact (Kd.C_below HR0_6.out (by repeat (first | (with_reducible first | exact HB.out | apply zf | apply zd | apply ze | refine zg ?_ GE145.out | refine zg ?_ GE146.out) | exact HB.out))) | (with_reducible refine Kd.C_alloc ?_ _) | (with_reducible refine Kd.C_drewN ?_ _) | (with_reducible refine Kd.C_drew ?_))); (case side2 => exact HC0_6.out); (case side3 => repeat (first | exact (Kd.C_below HR1_6.out (by repeat (first | (with_reducible first | exact HB.out | apply zf | apply zd | apply ze | refine zg ?_ GE145.out | refine zg ?_ GE146.out) | exact HB.out))) | (with_reducible refine Kd.C_alloc ?_ _) | (with_reducible refine Kd.C_drewN ?_ _) | (with_reducible refine Kd.C_drew ?_))); (case side4 => exact HC1_6.out); rintro e w55 ⟨rfl, hb⟩; have n0_ := zc.mk (zx (g := gb145) (o := .cells #[.int .i64 a0_0, .int .i64 a0_1, .int .i64 a0_2, .int .i64 a0_3, .int .i64 a0_4, .slice A0_5 l0_5.length c0_5, .slice A0_6 l0_6.length c0_6, .slice A0_7 l0_7.length c0_7, .slice A0_8 l0_8.length c0_8, .slice A0_9 l0_9.length c0_9] 28 (0, 0)) (by (with_reducible repeat (first | refine zh ?_ _ | refine zj ?_ | refine zi ?_ _)); exact BK145.out) hb); have n1_ := zc.mk (zx (g := gb146) (o := .cells #[.int .i64 a1_0, .int .i64 a1_1, .int .i64 a1_2, .int .i64 a1_3, .int .i64 a1_4, .slice A1_5 l1_5.length c1_5, .slice A1_6 l1_6.length c1_6, .slice A1_7 l1_7.length c1_7, .slice A1_8 l1_8.length c1_8, .slice A1_9 l1_9.length c1_9] 28 (0, 0)) (by (with_reducible repeat (first | refine zh ?_ _ | refine zj ?_ | refine zi ?_ _)); exact BK146.out) hb); have n2_ := zc.mk (zs (by repeat (first | (with_reducible first | exact HB.out | apply zf | apply zd | apply ze | refine zg ?_ GE145.out | refine zg ?_ GE146.out) | exact HB.out)) hb); clear BK145; clear BK146; clear HB; have BK145 := n0_; have BK146 := n1_; have HB := n2_; clear n0_ n1_ n2_; (try clear hb); (try clear hb2); (try clear hk); (try clear hi)))
       go_ret
       exact ⟨by first | rfl | (simp [zu, zv] <;> rfl) | (simp [*, zu, zv] <;> rfl), by repeat (first | (with_reducible first | exact HB.out | apply zf | apply zd | apply ze | refine zg ?_ GE145.out | refine zg ?_ GE146.out) | exact HB.out)⟩
     ·replace c29 := Zk.mpr c29
      subst c29
      have H1 : (some false) = some r := by rw [if_neg (show ¬ (false = true) by decide)] at H; exact H
      clear H
      have H := H1
      clear H1
      obtain rfl := Option.some.inj H
      have hnb56 := NB145_146.out
      have hnc56 := NB146_145.out
      have hcz57_0 : wc.cell? ⟨gb145, 0, none⟩ = some (.int .i64 a0_0) := (za BK145.out 0).trans rfl
      have hcz57_1 : wc.cell? ⟨gb145, 1, none⟩ = some (.int .i64 a0_1) := (za BK145.out 1).trans rfl
      have hcz57_2 : wc.cell? ⟨gb145, 2, none⟩ = some (.int .i64 a0_2) := (za BK145.out 2).trans rfl
      have hcz57_3 : wc.cell? ⟨gb145, 3, none⟩ = some (.int .i64 a0_3) := (za BK145.out 3).trans rfl
      have hcz57_4 : wc.cell? ⟨gb145, 4, none⟩ = some (.int .i64 a0_4) := (za BK145.out 4).trans rfl
      have hcz57_5 : wc.cell? ⟨gb145, 5, none⟩ = some (.slice A0_5 l0_5.length c0_5) := (za BK145.out 5).trans rfl
      have hcz57_6 : wc.cell? ⟨gb145, 6, none⟩ = some (.slice A0_6 l0_6.length c0_6) := (za BK145.out 6).trans rfl
      have hcz57_7 : wc.cell? ⟨gb145, 7, none⟩ = some (.slice A0_7 l0_7.length c0_7) := (za BK145.out 7).trans rfl
      have hcz57_8 : wc.cell? ⟨gb145, 8, none⟩ = some (.slice A0_8 l0_8.length c0_8) := (za BK145.out 8).trans rfl
      have hcz57_9 : wc.cell? ⟨gb145, 9, none⟩ = some (.slice A0_9 l0_9.length c0_9) := (za BK145.out 9).trans rfl
      have hfz57_0 := zb BK145.out 0
      have hfz57_1 := zb BK145.out 1
      have hfz57_2 := zb BK145.out 2
      have hfz57_3 := zb BK145.out 3
      have hfz57_4 := zb BK145.out 4
      have hfz57_5 := zb BK145.out 5
      have hfz57_6 := zb BK145.out 6
      have hfz57_7 := zb BK145.out 7
      have hfz57_8 := zb BK145.out 8
      have hfz57_9 := zb BK145.out 9
      have hcz58_0 : wc.cell? ⟨gb146, 0, none⟩ = some (.int .i64 a1_0) := (za BK146.out 0).trans rfl
      have hcz58_1 : wc.cell? ⟨gb146, 1, none⟩ = some (.int .i64 a1_1) := (za BK146.out 1).trans rfl
      have hcz58_2 : wc.cell? ⟨gb146, 2, none⟩ = some (.int .i64 a1_2) := (za BK146.out 2).trans rfl
      have hcz58_3 : wc.cell? ⟨gb146, 3, none⟩ = some (.int .i64 a1_3) := (za BK146.out 3).trans rfl
      have hcz58_4 : wc.cell? ⟨gb146, 4, none⟩ = some (.int .i64 a1_4) := (za BK146.out 4).trans rfl
      have hcz58_5 : wc.cell? ⟨gb146, 5, none⟩ = some (.slice A1_5 l1_5.length c1_5) := (za BK146.out 5).trans rfl
      have hcz58_6 : wc.cell? ⟨gb146, 6, none⟩ = some (.slice A1_6 l1_6.length c1_6) := (za BK146.out 6).trans rfl
      have hcz58_7 : wc.cell? ⟨gb146, 7, none⟩ = some (.slice A1_7 l1_7.length c1_7) := (za BK146.out 7).trans rfl
      have hcz58_8 : wc.cell? ⟨gb146, 8, none⟩ = some (.slice A1_8 l1_8.length c1_8) := (za BK146.out 8).trans rfl
      have hcz58_9 : wc.cell? ⟨gb146, 9, none⟩ = some (.slice A1_9 l1_9.length c1_9) := (za BK146.out 9).trans rfl
      have hfz58_0 := zb BK146.out 0
      have hfz58_1 := zb BK146.out 1
      have hfz58_2 := zb BK146.out 2
      have hfz58_3 := zb BK146.out 3
      have hfz58_4 := zb BK146.out 4
      have hfz58_5 := zb BK146.out 5
      have hfz58_6 := zb BK146.out 6
      have hfz58_7 := zb BK146.out 7
      have hfz58_8 := zb BK146.out 8
      have hfz58_9 := zb BK146.out 9
      go_wp2_with (first | (go_at_call 45; (with_reducible refine (zP.calls kj2 _ _ l0_5 _ _ l1_5 true _ ?side1 ?side2 ?side3 ?side4 A26.out).mono ?_); (case side1 => repeat (first | exact (Kd.C_below HR0_5.out HB.out) | (with_reducible refine Kd.C_alloc ?_ _) | (with_reducible refine Kd.C_drewN ?_ _) | (with_reducible refine Kd.C_drew ?_))); (case side2 => exact HC0_5.out); (case side3 => repeat (first | exact (Kd.C_below HR1_5.out HB.out) | (with_reducible refine Kd.C_alloc ?_ _) | (with_reducible refine Kd.C_drewN ?_ _) | (with_reducible refine Kd.C_drew ?_))); (case side4 => exact HC1_5.out); rintro e w' ⟨rfl, ⟨nd, rfl⟩⟩) | (go_at_call 46; (with_reducible refine (yb.calls kj2 _ _ l0_9 _ _ l1_9 false _ ?side1 ?side2 ?side3 ?side4 A28.out).mono ?_); (case side1 => repeat (first | exact (Kd.C_below HR0_9.out (by repeat (first | (with_reducible first | exact HB.out | apply zf | apply zd | apply ze | refine zg ?_ GE145.out | refine zg ?_ GE146.out) | exact HB.out))) | (with_reducible refine Kd.C_alloc ?_ _) | (with_reducible refine Kd.C_drewN ?_ _) | (with_reducible refine Kd.C_drew ?_))); (case side2 => exact HC0_9.out); (case side3 => repeat (first | exact (Kd.C_below HR1_9.out (by repeat (first | (with_reducible first | exact HB.out | apply zf | apply zd | apply ze | refine zg ?_ GE145.out | refine zg ?_ GE146.out) | exact HB.out))) | (with_reducible refine Kd.C_alloc ?_ _) | (with_reducible refine Kd.C_drewN ?_ _) | (with_reducible refine Kd.C_drew ?_))); (case side4 => exact HC1_9.out); rintro e w' ⟨rfl, ⟨nd, rfl⟩⟩))
      go_ret
      exact ⟨by first | rfl | (simp [zu, zv] <;> rfl) | (simp [*, zu, zv] <;> rfl), by repeat (first | (with_reducible first | exact HB.out | apply zf | apply zd | apply ze | refine zg ?_ GE145.out | refine zg ?_ GE146.out) | exact HB.out)⟩
    ·replace c27 := Zk.mpr c27
     subst c27
     have H1 : (some false) = some r := by rw [if_neg (show ¬ (false = true) by decide)] at H; exact H
     clear H
     have H := H1
     clear H1
     obtain rfl := Option.some.inj H
     have hnb59 := NB145_146.out
     have hnc59 := NB146_145.out
     have hcz60_0 : wc.cell? ⟨gb145, 0, none⟩ = some (.int .i64 a0_0) := (za BK145.out 0).trans rfl
     have hcz60_1 : wc.cell? ⟨gb145, 1, none⟩ = some (.int .i64 a0_1) := (za BK145.out 1).trans rfl
     have hcz60_2 : wc.cell? ⟨gb145, 2, none⟩ = some (.int .i64 a0_2) := (za BK145.out 2).trans rfl
     have hcz60_3 : wc.cell? ⟨gb145, 3, none⟩ = some (.int .i64 a0_3) := (za BK145.out 3).trans rfl
     have hcz60_4 : wc.cell? ⟨gb145, 4, none⟩ = some (.int .i64 a0_4) := (za BK145.out 4).trans rfl
     have hcz60_5 : wc.cell? ⟨gb145, 5, none⟩ = some (.slice A0_5 l0_5.length c0_5) := (za BK145.out 5).trans rfl
     have hcz60_6 : wc.cell? ⟨gb145, 6, none⟩ = some (.slice A0_6 l0_6.length c0_6) := (za BK145.out 6).trans rfl
     have hcz60_7 : wc.cell? ⟨gb145, 7, none⟩ = some (.slice A0_7 l0_7.length c0_7) := (za BK145.out 7).trans rfl
     have hcz60_8 : wc.cell? ⟨gb145, 8, none⟩ = some (.slice A0_8 l0_8.length c0_8) := (za BK145.out 8).trans rfl
     have hcz60_9 : wc.cell? ⟨gb145, 9, none⟩ = some (.slice A0_9 l0_9.length c0_9) := (za BK145.out 9).trans rfl
     have hfz60_0 := zb BK145.out 0
     have hfz60_1 := zb BK145.out 1
     have hfz60_2 := zb BK145.out 2
     have hfz60_3 := zb BK145.out 3
     have hfz60_4 := zb BK145.out 4
     have hfz60_5 := zb BK145.out 5
     have hfz60_6 := zb BK145.out 6
     have hfz60_7 := zb BK145.out 7
     have hfz60_8 := zb BK145.out 8
     have hfz60_9 := zb BK145.out 9
     have hcz61_0 : wc.cell? ⟨gb146, 0, none⟩ = some (.int .i64 a1_0) := (za BK146.out 0).trans rfl
     have hcz61_1 : wc.cell? ⟨gb146, 1, none⟩ = some (.int .i64 a1_1) := (za BK146.out 1).trans rfl
     have hcz61_2 : wc.cell? ⟨gb146, 2, none⟩ = some (.int .i64 a1_2) := (za BK146.out 2).trans rfl
     have hcz61_3 : wc.cell? ⟨gb146, 3, none⟩ = some (.int .i64 a1_3) := (za BK146.out 3).trans rfl
     have hcz61_4 : wc.cell? ⟨gb146, 4, none⟩ = some (.int .i64 a1_4) := (za BK146.out 4).trans rfl
     have hcz61_5 : wc.cell? ⟨gb146, 5, none⟩ = some (.slice A1_5 l1_5.length c1_5) := (za BK146.out 5).trans rfl
     have hcz61_6 : wc.cell? ⟨gb146, 6, none⟩ = some (.slice A1_6 l1_6.length c1_6) := (za BK146.out 6).trans rfl
     have hcz61_7 : wc.cell? ⟨gb146, 7, none⟩ = some (.slice A1_7 l1_7.length c1_7) := (za BK146.out 7).trans rfl
     have hcz61_8 : wc.cell? ⟨gb146, 8, none⟩ = some (.slice A1_8 l1_8.length c1_8) := (za BK146.out 8).trans rfl
     have hcz61_9 : wc.cell? ⟨gb146, 9, none⟩ = some (.slice A1_9 l1_9.length c1_9) := (za BK146.out 9).trans rfl
     have hfz61_0 := zb BK146.out 0
     have hfz61_1 := zb BK146.out 1
     have hfz61_2 := zb BK146.out 2
     have hfz61_3 := zb BK146.out 3
     have hfz61_4 := zb BK146.out 4
     have hfz61_5 := zb BK146.out 5
     have hfz61_6 := zb BK146.out 6
     have hfz61_7 := zb BK146.out 7
     have hfz61_8 := zb BK146.out 8
     have hfz61_9 := zb BK146.out 9
     go_wp2_with (first | (go_at_call 45; (with_reducible refine (zP.calls kj2 _ _ l0_5 _ _ l1_5 false _ ?side1 ?side2 ?side3 ?side4 A26.out).mono ?_); (case side1 => repeat (first | exact (Kd.C_below HR0_5.out HB.out) | (with_reducible refine Kd.C_alloc ?_ _) | (with_reducible refine Kd.C_drewN ?_ _) | (with_reducible refine Kd.C_drew ?_))); (case side2 => exact HC0_5.out); (case side3 => repeat (first | exact (Kd.C_below HR1_5.out HB.out) | (with_reducible refine Kd.C_alloc ?_ _) | (with_reducible refine Kd.C_drewN ?_ _) | (with_reducible refine Kd.C_drew ?_))); (case side4 => exact HC1_5.out); rintro e w' ⟨rfl, ⟨nd, rfl⟩⟩))
     go_ret
     exact ⟨by first | rfl | (simp [zu, zv] <;> rfl) | (simp [*, zu, zv] <;> rfl), by repeat (first | (with_reducible first | exact HB.out | apply zf | apply zd | apply ze | refine zg ?_ GE145.out | refine zg ?_ GE146.out) | exact HB.out)⟩
   ·replace c25 := Zk.mpr c25
    subst c25
    have H1 : (some false) = some r := by rw [if_neg (show ¬ (false = true) by decide)] at H; exact H
    clear H
    have H := H1
    clear H1
    obtain rfl := Option.some.inj H
    go_wp2
    go_ret
    exact ⟨by first | rfl | (simp [zu, zv] <;> rfl) | (simp [*, zu, zv] <;> rfl), by repeat (first | (with_reducible first | exact HB.out | apply zf | apply zd | apply ze | refine zg ?_ GE145.out | refine zg ?_ GE146.out) | exact HB.out)⟩
def yp.f (a0 : Int) : Option (ByteArray) := some (strOfNums (([(a0) % 256, (a0 / 256) % 256, (a0 / 65536) % 256, (a0 / 16777216) % 256] : List Int)))
theorem yp.calls (a0 : Int) (r : ByteArray) (w : World) (h : yp.f a0 = some r) :
  Calls Tryz.prog 55 #[.int .u32 a0] w fun e w' => e = .returned (.string r) ∧ Below w.heap.size w w' := by
 have HB := zc.mk (Below.refl w.heap.size w)
 have H : (some (strOfNums (([(a0) % 256, (a0 / 256) % 256, (a0 / 65536) % 256, (a0 / 16777216) % 256] : List Int)))) = some r := h
 clear h
 obtain ⟨y319, hy319⟩ : ∃ y_ : List Int, y_ = (([(a0) % 256, (a0 / 256) % 256, (a0 / 65536) % 256, (a0 / 16777216) % 256] : List Int)) := ⟨_, rfl⟩
 replace H : (some (strOfNums y319)) = some r := by first | (rw [hy319]; with_reducible exact H) | (have H2_ := (Option.bind_some _ _).symm.trans H; rw [hy319]; with_reducible exact H2_) | (have H2_ := (Option.bind_some _ _).symm.trans H; with_reducible exact H2_) | with_reducible exact H | (rw [hy319]; exact H) | exact H
 have Ny319 := zc.mk hy319
 clear hy319
 obtain rfl := Option.some.inj H
 go_enter Tryz.func55, Tryz.ntmps55
 go_wp2_with (first | ((with_reducible refine zB (N := 14) rfl ?_); refine Kd.R_lit (Kd.int .u8) _ 5 ?hg (N := 14) ?hd (xs := ([(a0) % 256, (a0 / 256) % 256, (a0 / 65536) % 256, (a0 / 16777216) % 256] : List Int)) (inner := [.int .u8 ((a0) % 256), .int .u8 ((a0 / 256) % 256), .int .u8 ((a0 / 65536) % 256), .int .u8 ((a0 / 16777216) % 256)]) (ok := fun _ => True) (okp := fun _ => True) ?hr ?hp (fun _ hk => hk) trivial (Below.refl _ _) (Nat.le_refl _) (by simp) ?_; (case hd => rfl); (case hg => rfl); (case hr => first | (go_simp; done) | (go_simp; rfl)); (case hp => exact (z9.one (show Kd.M (Kd.int .u8) _ _ _ ((a0) % 256) [.int .u8 ((a0) % 256)] from rfl) (z9.one (show Kd.M (Kd.int .u8) _ _ _ ((a0 / 256) % 256) [.int .u8 ((a0 / 256) % 256)] from rfl) (z9.one (show Kd.M (Kd.int .u8) _ _ _ ((a0 / 65536) % 256) [.int .u8 ((a0 / 65536) % 256)] from rfl) (z9.one (show Kd.M (Kd.int .u8) _ _ _ ((a0 / 16777216) % 256) [.int .u8 ((a0 / 16777216) % 256)] from rfl) (z9.none _ _)))))); intro v320 w2 ho3 hb hg_ hnew_; clear hg_ hnew_; (first | rw [← Ny319.out] at ho3 | (simp only [Int.reduceToNat] at ho3; rw [← Ny319.out] at ho3)); have n0_ := zc.mk (Kd.R_lower ho3 (zr (by repeat (first | (with_reducible first | exact HB.out | apply zf | apply zd | apply ze) | exact HB.out)))); have n1_ := zc.mk (zs (by repeat (first | (with_reducible first | exact HB.out | apply zf | apply zd | apply ze) | exact HB.out)) hb); clear HB; have HO321 := n0_; have HB := n1_; clear n0_ n1_; clear hb ho3; have hcv4 := qQ (P := Tryz.prog) Tryz.underlying41 Tryz.underlying5 Tryz.underlying9 (Kd.own_of_R HO321.out)))
 go_ret
 exact ⟨by first | rfl | (simp [zu, zv] <;> rfl) | (simp [*, zu, zv] <;> rfl), by repeat (first | (with_reducible first | exact HB.out | apply zf | apply zd | apply ze) | exact HB.out)⟩
def yl.l0 : Nat → Int → Int → Option (Int)
 | 0, _, _ => none
 | k + 1, x0, x10 => if x10 < 8 then (if (Go.bits .and .u32 x0 1) = 1 then (yl.l0 k (Go.bits .xor .u32 (x0 / 2) 2197175160) (wrap64 (x10 + 1))) else (yl.l0 k (x0 / 2) (wrap64 (x10 + 1)))) else (some x0)
def yl.f (k : Nat) (a0 : Int) (a1 : Int) : Option (Int) := yl.l0 k (Go.bits .xor .u32 a0 ((a1) % 4294967296)) 0
theorem yl.calls (k : Nat) (a0 : Int) (a1 : Int) (r : Int) (w : World) (h : yl.f k a0 a1 = some r) :
  Calls Tryz.prog 130 #[.int .u32 a0, .int .u8 a1] w fun e w' => e = .returned (.int .u32 r) ∧ zC w w' := by
 have H : (yl.l0 k (Go.bits .xor .u32 a0 ((a1) % 4294967296)) 0) = some r := h
 clear h
 have H' := zc.mk H
 clear H
 go_enter Tryz.func130, Tryz.ntmps130
 go_wp2
 go_loopg [0, 10] k (fun kq v0 v10 w' => ∃ (x0_1 : Int) (x10_1 : Int), v0 = .int .u32 x0_1 ∧ v10 = .int .i64 x10_1 ∧ zc (yl.l0 kq x0_1 x10_1 = some r) ∧ zc (kq ≤ k) ∧ zC w w')
 case atStart => exact ⟨(Go.bits .xor .u32 a0 ((a1) % 4294967296)), (0), (by first | rfl | (simp; done) | (simp [*]; done)), (by first | rfl | (simp; done) | (simp [*]; done)), H', ⟨Nat.le_refl _⟩, by repeat (first | exact zC.refl _ | apply zC.step)⟩
 case round =>
  clear H'
  try clear c1
  try clear p2
  obtain ⟨x0_1, x10_1, rfl, rfl, HA, HK1, ⟨m1, rfl⟩⟩ := hrel
  cases gk with
  | zero => exact absurd HA.out (by simp [yl.l0])
  | succ k1 =>
   have H := HA.out
   clear HA
   simp only [yl.l0] at H
   by_cases c3 : x10_1 < 8
   ·rw [if_pos c3] at H
    have c3b0 : decide (x10_1 < 8) = true := decide_eq_true c3
    clear c3
    by_cases c4 : (Go.bits .and .u32 x0_1 1) = 1
    ·rw [if_pos c4] at H
     have c4b0 : ((Go.bits .and .u32 x0_1 1) == 1) = true := beq_iff_eq.mpr c4
     have c4b1 : ((Go.bits .and .u32 x0_1 1) != 1) = false := bne_eq_false_iff_eq.mpr c4
     clear c4
     have H' := zc.mk H
     clear H
     go_wp2
     go_roundg k1
     case measure => have := HK1.out; omega
     case rel => exact ⟨(Go.bits .xor .u32 (x0_1 / 2) 2197175160), (wrap64 (x10_1 + 1)), (by first | rfl | (simp; done) | (simp [*]; done)), (by first | rfl | (simp; done) | (simp [*]; done)), H', ⟨by have := HK1.out; omega⟩, by repeat (first | exact zC.refl _ | apply zC.step)⟩
    ·rw [if_neg c4] at H
     have c4b0 : ((Go.bits .and .u32 x0_1 1) == 1) = false := beq_eq_false_iff_ne.mpr c4
     have c4b1 : ((Go.bits .and .u32 x0_1 1) != 1) = true := bne_iff_ne.mpr c4
     have H' := zc.mk H
     clear H
     go_wp2
     go_roundg k1
     case measure => have := HK1.out; omega
     case rel => exact ⟨(x0_1 / 2), (wrap64 (x10_1 + 1)), (by first | rfl | (simp; done) | (simp [*]; done)), (by first | rfl | (simp; done) | (simp [*]; done)), H', ⟨by have := HK1.out; omega⟩, by repeat (first | exact zC.refl _ | apply zC.step)⟩
   ·rw [if_neg c3] at H
    have c3b0 : decide (x10_1 < 8) = false := decide_eq_false c3
    clear c3
    obtain rfl := Option.some.inj H
    go_wp2
    go_ret
    exact ⟨by first | rfl | (simp; done) | (simp [*]; done), by repeat (first | exact zC.refl _ | apply zC.step)⟩
def yr.l0 : Nat → ByteArray → Int → Int → Int → Option (Int)
 | 0, _, _, _, _ => none
 | k + 1, x1, x5, x10, x11 => if x11 < x10 then (if 0 ≤ x11 then (if x11 < (x1.size : Int) then ((yl.f k x5 (bt x1 x11)).bind fun t322 => (yr.l0 k x1 t322 x10 (wrap64 (x11 + 1)))) else (none)) else (none)) else (some (Go.bits .xor .u32 4294967295 x5))
def yr.f (k : Nat) (a0 : Int) (a1 : ByteArray) : Option (Int) := yr.l0 k a1 (Go.bits .xor .u32 4294967295 a0) (a1.size : Int) 0
theorem yr.calls (k : Nat) (a0 : Int) (a1 : ByteArray) (r : Int) (w : World) (h : yr.f k a0 a1 = some r) :
  Calls Tryz.prog 100 #[.int .u32 a0, .string a1] w fun e w' => e = .returned (.int .u32 r) ∧ zC w w' := by
 have H : (yr.l0 k a1 (Go.bits .xor .u32 4294967295 a0) (a1.size : Int) 0) = some r := h
 clear h
 have H' := zc.mk H
 clear H
 go_enter Tryz.func100, Tryz.ntmps100
 go_wp2
 go_loopg [5, 11] k (fun kq v5 v11 w' => ∃ (x5_1 : Int) (x11_1 : Int), v5 = .int .u32 x5_1 ∧ v11 = .int .i64 x11_1 ∧ zc (yr.l0 kq a1 x5_1 (a1.size : Int) x11_1 = some r) ∧ zc (kq ≤ k) ∧ zC w w')
 case atStart => exact ⟨(Go.bits .xor .u32 4294967295 a0), (0), (by first | rfl | (simp; done) | (simp [*]; done)), (by first | rfl | (simp; done) | (simp [*]; done)), H', ⟨Nat.le_refl _⟩, by repeat (first | exact zC.refl _ | apply zC.step)⟩
 case round =>
  clear H'
  try clear c1
  try clear p2
  obtain ⟨x5_1, x11_1, rfl, rfl, HA, HK1, ⟨m1, rfl⟩⟩ := hrel
  cases gk with
  | zero => exact absurd HA.out (by simp [yr.l0])
  | succ k1 =>
   have H := HA.out
   clear HA
   simp only [yr.l0] at H
   by_cases c3 : x11_1 < (a1.size : Int)
   ·rw [if_pos c3] at H
    have c3b0 : decide (x11_1 < (a1.size : Int)) = true := decide_eq_true c3
    clear c3
    by_cases c4 : 0 ≤ x11_1
    ·rw [if_pos c4] at H
     have c4b0 : decide (0 ≤ x11_1) = true := decide_eq_true c4
     clear c4
     by_cases c5 : x11_1 < (a1.size : Int)
     ·rw [if_pos c5] at H
      have c5b0 : decide (x11_1 < (a1.size : Int)) = true := decide_eq_true c5
      clear c5
      replace H := Zi.mp H
      obtain ⟨t322, A70, H⟩ := H
      replace H : (yr.l0 k1 a1 t322 (a1.size : Int) (wrap64 (x11_1 + 1))) = some r := H
      have A7 := zc.mk A70
      clear A70
      have H' := zc.mk H
      clear H
      have p6 : 0 ≤ (x11_1 : Int) := of_decide_eq_true (by first | (with_reducible assumption) | assumption)
      have q6 : x11_1 < (a1.size : Int) := of_decide_eq_true (by first | (with_reducible assumption) | assumption)
      have hx6 := vC a1 x11_1
      replace p6 := eq_true p6
      replace q6 := eq_true q6
      go_wp2_with (first | ((with_reducible refine yz (f := 130) rfl ?_); refine xq (some 18) rfl rfl Tryz.func130 (by kernel_rfl) rfl #[.int .u32 x5_1, .int .u8 (bt a1 x11_1)] rfl (by (try simp only [Zh, List.map_cons, List.map_nil]); first | done | rfl | (simp only [List.length_drop, List.length_take]; rfl)) ?_; (with_reducible refine (yl.calls k1 x5_1 (bt a1 x11_1) t322 _ A7.out).mono ?_); rintro e w' ⟨rfl, ⟨nd, rfl⟩⟩; refine ⟨_, rfl, ?_⟩))
      go_roundg k1
      case measure => have := HK1.out; omega
      case rel => exact ⟨(t322), (wrap64 (x11_1 + 1)), (by first | rfl | (simp; done) | (simp [*]; done)), (by first | rfl | (simp; done) | (simp [*]; done)), H', ⟨by have := HK1.out; omega⟩, by repeat (first | exact zC.refl _ | apply zC.step)⟩
     ·rw [if_neg c5] at H
      exact absurd H (by simp)
    ·rw [if_neg c4] at H
     exact absurd H (by simp)
   ·rw [if_neg c3] at H
    have c3b0 : decide (x11_1 < (a1.size : Int)) = false := decide_eq_false c3
    clear c3
    obtain rfl := Option.some.inj H
    go_wp2
    go_ret
    exact ⟨by first | rfl | (simp; done) | (simp [*]; done), by repeat (first | exact zC.refl _ | apply zC.step)⟩
def yW.f (k : Nat) (a0 : ByteArray) : Option (Int) := (yr.f k 0 a0).bind fun t323 => (some t323)
theorem yW.calls (k : Nat) (a0 : ByteArray) (r : Int) (w : World) (h : yW.f k a0 = some r) :
  Calls Tryz.prog 56 #[.string a0] w fun e w' => e = .returned (.int .u32 r) ∧ zC w w' := by
 have H : ((yr.f k 0 a0).bind fun t323 => (some t323)) = some r := h
 clear h
 replace H := Zi.mp H
 obtain ⟨t323, A20, H⟩ := H
 replace H : (some t323) = some r := H
 have A2 := zc.mk A20
 clear A20
 obtain rfl := Option.some.inj H
 go_enter Tryz.func56, Tryz.ntmps56
 go_wp2_with (first | ((with_reducible refine yz (f := 100) rfl ?_); refine xq (some 4) rfl rfl Tryz.func100 (by kernel_rfl) rfl #[.int .u32 0, .string a0] rfl (by (try simp only [Zh, List.map_cons, List.map_nil]); first | done | rfl | (simp only [List.length_drop, List.length_take]; rfl)) ?_; (with_reducible refine (yr.calls k 0 a0 t323 _ A2.out).mono ?_); rintro e w' ⟨rfl, ⟨nd, rfl⟩⟩; refine ⟨_, rfl, ?_⟩))
 go_ret
 exact ⟨by first | rfl | (simp; done) | (simp [*]; done), by repeat (first | exact zC.refl _ | apply zC.step)⟩
def xC.f (k : Nat) (a0 : ByteArray) : Option (ByteArray) := (yW.f k a0).bind fun t324 => ((yp.f t324).bind fun t325 => (if a0.size + t325.size ≤ 9223372036854775807 then (some (a0 ++ t325)) else (none)))
theorem xC.calls (k : Nat) (a0 : ByteArray) (r : ByteArray) (w : World) (h : xC.f k a0 = some r) :
  Calls Tryz.prog 17 #[.string a0] w fun e w' => e = .returned (.string r) ∧ Below w.heap.size w w' := by
 have HB := zc.mk (Below.refl w.heap.size w)
 have H : ((yW.f k a0).bind fun t324 => ((yp.f t324).bind fun t325 => (if a0.size + t325.size ≤ 9223372036854775807 then (some (a0 ++ t325)) else (none)))) = some r := h
 clear h
 replace H := Zi.mp H
 obtain ⟨t324, A20, H⟩ := H
 replace H : ((yp.f t324).bind fun t325 => (if a0.size + t325.size ≤ 9223372036854775807 then (some (a0 ++ t325)) else (none))) = some r := H
 have A2 := zc.mk A20
 clear A20
 replace H := Zi.mp H
 obtain ⟨t325, A30, H⟩ := H
 replace H : (if a0.size + t325.size ≤ 9223372036854775807 then (some (a0 ++ t325)) else (none)) = some r := H
 have A3 := zc.mk A30
 clear A30
 by_cases c4 : a0.size + t325.size ≤ 9223372036854775807
 ·rw [if_pos c4] at H
  have c4b0 := eq_true c4
  have c4b1 : decide (a0.size + t325.size ≤ 9223372036854775807) = true := decide_eq_true c4
  try have c4b2 : (9223372036854775807 < a0.size + t325.size) = False := eq_false (Nat.not_lt.2 c4)
  obtain rfl := Option.some.inj H
  go_enter Tryz.func17, Tryz.ntmps17
  go_wp2_with (first | ((with_reducible refine yz (f := 56) rfl ?_); refine xq (some 5) rfl rfl Tryz.func56 (by kernel_rfl) rfl #[.string a0] rfl (by (try simp only [Zh, List.map_cons, List.map_nil]); first | done | rfl | (simp only [List.length_drop, List.length_take]; rfl)) ?_; (with_reducible refine (yW.calls k a0 t324 _ A2.out).mono ?_); rintro e w' ⟨rfl, ⟨nd, rfl⟩⟩; refine ⟨_, rfl, ?_⟩) | ((with_reducible refine yz (f := 55) rfl ?_); refine xq (some 6) rfl rfl Tryz.func55 (by kernel_rfl) rfl #[.int .u32 t324] rfl (by (try simp only [Zh, List.map_cons, List.map_nil]); first | done | rfl | (simp only [List.length_drop, List.length_take]; rfl)) ?_; (with_reducible refine (yp.calls t324 t325 _ A3.out).mono ?_); rintro e w5 ⟨rfl, hb⟩; refine ⟨_, rfl, ?_⟩; have n0_ := zc.mk (zs (by repeat (first | (with_reducible first | exact HB.out | apply zf | apply zd | apply ze) | exact HB.out)) hb); clear HB; have HB := n0_; clear n0_; (try clear hb); (try clear hb2); (try clear hk); (try clear hi)))
  go_ret
  exact ⟨by first | rfl | (simp [zu, zv] <;> rfl) | (simp [*, zu, zv] <;> rfl), by repeat (first | (with_reducible first | exact HB.out | apply zf | apply zd | apply ze) | exact HB.out)⟩
 ·rw [if_neg c4] at H
  exact absurd H (by simp)
def yk.f (k : Nat) (a0 : ByteArray) : Option (ByteArray × Int) := if (wrap64 ((a0.size : Int) - 4)) < 0 then (some ((⟨#[]⟩ : ByteArray), 5)) else (if 0 ≤ (wrap64 ((a0.size : Int) - 4)) then (if (wrap64 ((a0.size : Int) - 4)) ≤ (a0.size : Int) then ((yW.f k (a0.extract 0 ((wrap64 ((a0.size : Int) - 4)) : Int).toNat)).bind fun t336 => ((yp.f t336).bind fun t337 => (if t337.toList = (a0.extract ((wrap64 ((a0.size : Int) - 4)) : Int).toNat a0.size).toList then (some (a0.extract 0 ((wrap64 ((a0.size : Int) - 4)) : Int).toNat, 0)) else (some ((⟨#[]⟩ : ByteArray), 7))))) else (none)) else (none))
def yk.T4 : Bool × List (List Nat × List Nat) := (true, [([], []), ([], []), ([0, 1], [0, 1]), ([2], [2]), ([3, 3], [3]), ([], []), ([], []), ([5, 6], [5, 6]), ([4, 7], [4, 7]), ([8, 4], [8])])
def yk.B4 : List Nat := [0, 0, 3, 7, 15, 0, 0, 96, 255, 511]
theorem yk.tab4 : yR .any (qS Tryz.f36 4) = yk.T4 := by kernel_rfl
theorem yk.bits4 : xt yk.T4.2 yk.B4 = true := by kernel_rfl
theorem yk.calls (k : Nat) (a0 : ByteArray) (r1 : ByteArray) (r2 : Int) (w : World) (h : yk.f k a0 = some (r1, r2)) :
  Calls Tryz.prog 36 #[.string a0] w fun e w' => e = .returned (.tuple #[.string r1, .int .i64 r2]) ∧ Below w.heap.size w w' := by
 have HB := zc.mk (Below.refl w.heap.size w)
 have H : (if (wrap64 ((a0.size : Int) - 4)) < 0 then (some ((⟨#[]⟩ : ByteArray), 5)) else (if 0 ≤ (wrap64 ((a0.size : Int) - 4)) then (if (wrap64 ((a0.size : Int) - 4)) ≤ (a0.size : Int) then ((yW.f k (a0.extract 0 ((wrap64 ((a0.size : Int) - 4)) : Int).toNat)).bind fun t336 => ((yp.f t336).bind fun t337 => (if t337.toList = (a0.extract ((wrap64 ((a0.size : Int) - 4)) : Int).toNat a0.size).toList then (some (a0.extract 0 ((wrap64 ((a0.size : Int) - 4)) : Int).toNat, 0)) else (some ((⟨#[]⟩ : ByteArray), 7))))) else (none)) else (none))) = some (r1, r2) := h
 clear h
 by_cases c2 : (wrap64 ((a0.size : Int) - 4)) < 0
 ·rw [if_pos c2] at H
  have c2b0 : decide ((wrap64 ((a0.size : Int) - 4)) < 0) = true := decide_eq_true c2
  clear c2
  simp only [Option.some.injEq, Prod.mk.injEq] at H
  obtain ⟨rfl, rfl⟩ := H
  go_enter Tryz.func36, Tryz.ntmps36
  go_wp2
  go_ret2
  exact ⟨by first | rfl | (simp [zu, zv] <;> rfl) | (simp [*, zu, zv] <;> rfl), by repeat (first | (with_reducible first | exact HB.out | apply zf | apply zd | apply ze) | exact HB.out)⟩
 ·rw [if_neg c2] at H
  have c2b0 : decide ((wrap64 ((a0.size : Int) - 4)) < 0) = false := decide_eq_false c2
  clear c2
  obtain ⟨ji3, hji3⟩ : ∃ j_ : Int, (wrap64 ((a0.size : Int) - 4)) = j_ := ⟨_, rfl⟩
  replace H : (if 0 ≤ (ji3) then (if (ji3) ≤ (a0.size : Int) then ((yW.f k (a0.extract 0 ((ji3) : Int).toNat)).bind fun t336 => ((yp.f t336).bind fun t337 => (if t337.toList = (a0.extract ((ji3) : Int).toNat a0.size).toList then (some (a0.extract 0 ((ji3) : Int).toNat, 0)) else (some ((⟨#[]⟩ : ByteArray), 7))))) else (none)) else (none)) = some (r1, r2) := by first | (rw [hji3] at H; exact H) | (simp only [hji3] at H ⊢; exact H)
  (try rw [hji3] at c2b0)
  have hji3w : (IntKind.i64.wrap ((a0.size : Int) - 4)) = ji3 := (zl _).trans hji3
  by_cases c4 : 0 ≤ (ji3)
  ·rw [if_pos c4] at H
   have c4b0 := eq_true c4
   have c4b1 : decide (0 ≤ (ji3)) = true := decide_eq_true c4
   clear c4
   by_cases c5 : (ji3) ≤ (a0.size : Int)
   ·rw [if_pos c5] at H
    have c5b0 := eq_true c5
    have c5b1 : decide ((ji3) ≤ (a0.size : Int)) = true := decide_eq_true c5
    clear c5
    replace H := Zi.mp H
    obtain ⟨t336, A60, H⟩ := H
    replace H : ((yp.f t336).bind fun t337 => (if t337.toList = (a0.extract ((ji3) : Int).toNat a0.size).toList then (some (a0.extract 0 ((ji3) : Int).toNat, 0)) else (some ((⟨#[]⟩ : ByteArray), 7)))) = some (r1, r2) := H
    have A6 := zc.mk A60
    clear A60
    replace H := Zi.mp H
    obtain ⟨t337, A70, H⟩ := H
    replace H : (if t337.toList = (a0.extract ((ji3) : Int).toNat a0.size).toList then (some (a0.extract 0 ((ji3) : Int).toNat, 0)) else (some ((⟨#[]⟩ : ByteArray), 7))) = some (r1, r2) := H
    have A7 := zc.mk A70
    clear A70
    have c8b0 := eq_true (of_decide_eq_true (by first | (with_reducible assumption) | assumption) : 0 ≤ (ji3))
    have c9b0 := eq_true (of_decide_eq_true (by first | (with_reducible assumption) | assumption) : (ji3) ≤ (a0.size : Int))
    by_cases c10 : t337.toList = (a0.extract ((ji3) : Int).toNat a0.size).toList
    ·rw [if_pos c10] at H
     have c10b0 : (t337.toList == (a0.extract ((ji3) : Int).toNat a0.size).toList) = true := beq_iff_eq.mpr c10
     have c10b1 : (t337.toList != (a0.extract ((ji3) : Int).toNat a0.size).toList) = false := bne_eq_false_iff_eq.mpr c10
     clear c10
     have c11b0 := eq_true (of_decide_eq_true (by first | (with_reducible assumption) | assumption) : 0 ≤ (ji3))
     have c12b0 := eq_true (of_decide_eq_true (by first | (with_reducible assumption) | assumption) : (ji3) ≤ (a0.size : Int))
     simp only [Option.some.injEq, Prod.mk.injEq] at H
     obtain ⟨rfl, rfl⟩ := H
     go_enter Tryz.func36, Tryz.ntmps36
     try go_wp2
     refine yK (n := 10) (S := fun w' => True) (ds := []) #[X,X,X,X,X,X,X,X,X,X] (by kernel_rfl) rfl rfl trivial (fun hHeld => ?_); refine ym yk.tab4 yk.bits4 (fun HT_ HW_ => ?_)
     first | (generalize hdrew_ : (World.drewN w nd).drew = w13 at hHeld ⊢; have n0_ : zc (Below _ _ w13) := zc.mk (by rw [← hdrew_]; exact ze (zd HB.out nd)); clear hdrew_; clear HB; have HB := n0_; clear n0_) | (have n0_ := zc.mk (ze HB.out); clear HB; have HB := n0_; clear n0_; generalize w.drew = w13 at HB hHeld ⊢)
     refine zq (i := 0) (N := some 12) (v := ?_) (a' := ?_) #[O,X,X,X,X,X,X,X,X,X] rfl rfl (zo HT_.out (by kernel_rfl)) (fun _ _ _ h => h) (Or.inl ⟨by rfl, ?_⟩) ?_ ?_
     rotate_left
     ·intro w'
      go_simp
      with_reducible rfl
     rotate_left
     ·simp only [Act.put, Ze, Zf, Zg, zl, zm]
      rfl
     refine zq (i := 1) (N := some 13) (v := ?_) (a' := ?_) #[O,O,X,X,X,X,X,X,X,X] rfl rfl (zo HT_.out (by kernel_rfl)) (fun _ _ _ h => h) (Or.inl ⟨by rfl, ?_⟩) ?_ ?_
     rotate_left
     ·intro w'
      go_simp
      with_reducible rfl
     rotate_left
     ·simp only [Act.put, Ze, Zf, Zg, zl, zm]
      rfl
     refine zq (i := 2) (N := some 14) (v := ?_) (a' := ?_) #[O,O,O,X,X,X,X,X,X,X] rfl rfl (zo HT_.out (by kernel_rfl)) (fun _ _ _ h => h) (Or.inl ⟨by rfl, ?_⟩) ?_ ?_
     rotate_left
     ·intro w'
      go_simp
      with_reducible rfl
     rotate_left
     ·simp only [Act.put, Ze, Zf, Zg, zl, zm]
      rfl
     refine zq (i := 5) (N := some 17) (v := ?_) (a' := ?_) #[O,O,O,X,X,O,X,X,X,X] rfl rfl (zo HT_.out (by kernel_rfl)) (fun _ _ _ h => h) (Or.inl ⟨by rfl, ?_⟩) ?_ ?_
     rotate_left
     ·intro w'
      go_simp
      with_reducible rfl
     rotate_left
     ·simp only [Act.put, Ze, Zf, Zg, zl, zm]
      rfl
     refine zq (i := 6) (N := some 18) (v := ?_) (a' := ?_) #[O,O,O,X,X,O,O,X,X,X] rfl rfl (zo HT_.out (by kernel_rfl)) (fun _ _ _ h => h) (Or.inl ⟨by rfl, ?_⟩) ?_ ?_
     rotate_left
     ·intro w'
      go_simp
      with_reducible rfl
     rotate_left
     ·simp only [Act.put, Ze, Zf, Zg, zl, zm]
      rfl
     refine zq (i := 7) (N := some 19) (v := ?_) (a' := ?_) #[O,O,O,X,X,O,O,O,X,X] rfl rfl (zo HT_.out (by kernel_rfl)) (fun _ _ _ h => h) (Or.inl ⟨by rfl, ?_⟩) ?_ ?_
     rotate_left
     ·intro w'
      go_simp
      with_reducible rfl
     rotate_left
     ·simp only [Act.put, Ze, Zf, Zg, zl, zm]
      rfl
     refine yO (i := 3) (N := some 15) #[O,O,O,O,X,O,O,O,X,X] rfl rfl (yo HT_.out (by kernel_rfl)) (by decide) (fun K hK => ?_)
     refine yq Tryz.func56 (by kernel_rfl) rfl #[.string (a0.extract 0 ((ji3) : Int).toNat)] (by rfl) rfl rfl (by (try simp only [Zh, List.map_cons, List.map_nil]); first | done | (simp only [hji3]; rfl) | rfl | (simp only [List.length_drop, List.length_take]; rfl)) ?_
     with_reducible refine (yW.calls k (a0.extract 0 ((ji3) : Int).toNat) t336 _ A6.out).mono ?_
     rintro e w' ⟨rfl, ⟨nd, rfl⟩⟩
     refine ⟨_, rfl, ?_⟩
     refine hK.out _ _ trivial (fun hHeld => ?_)
     clear hK K
     refine yF (a' := ?_) ?_ ?_
     rotate_left
     ·show Act.put _ (some 15) _ = _
      simp only [Act.put, Ze, Zf, Zg, zl, zm]
      rfl
     refine yO (i := 4) (N := some 16) #[O,O,O,O,O,O,O,O,X,X] rfl rfl (yo HT_.out (by kernel_rfl)) (by decide) (fun K hK => ?_)
     refine yq Tryz.func55 (by kernel_rfl) rfl #[.int .u32 t336] (by rfl) rfl rfl (by (try simp only [Zh, List.map_cons, List.map_nil]); first | done | rfl | (simp only [List.length_drop, List.length_take]; rfl)) ?_
     with_reducible refine (yp.calls t336 t337 _ A7.out).mono ?_
     rintro e w14 ⟨rfl, hb⟩
     refine ⟨_, rfl, ?_⟩
     have n0_ := zc.mk (zs (by repeat (first | (with_reducible first | exact HB.out | apply zf | apply zd | apply ze) | exact HB.out)) hb)
     clear HB
     have HB := n0_
     clear n0_
     (try clear hb)
     (try clear hb2)
     (try clear hk)
     (try clear hi)
     refine hK.out _ _ trivial (fun hHeld => ?_)
     clear hK K
     refine yF (a' := ?_) ?_ ?_
     rotate_left
     ·show Act.put _ (some 16) _ = _
      simp only [Act.put, Ze, Zf, Zg, zl, zm]
      rfl
     refine zq (i := 8) (N := some 20) (v := ?_) (a' := ?_) #[O,O,O,O,O,O,O,O,O,X] rfl rfl (zo HT_.out (by kernel_rfl)) (fun _ _ _ h => h) (Or.inl ⟨by rfl, ?_⟩) ?_ ?_
     rotate_left
     ·intro w'
      go_simp
      with_reducible rfl
     rotate_left
     ·simp only [Act.put, Ze, Zf, Zg, zl, zm]
      rfl
     refine zq (i := 9) (N := some 11) (v := ?_) (a' := ?_) #[O,O,O,O,O,O,O,O,O,O] rfl rfl (zo HT_.out (by kernel_rfl)) (fun _ _ _ h => h) (Or.inl ⟨by rfl, ?_⟩) ?_ ?_
     rotate_left
     ·intro w'
      go_simp
      with_reducible rfl
     rotate_left
     ·simp only [Act.put, Ze, Zf, Zg, zl, zm]
      rfl
     refine yZ (yE HT_.out (by kernel_rfl)) ?_
     try go_wp2
     go_ret2
     exact ⟨by first | rfl | (simp [zu, zv] <;> rfl) | (simp only [← hji3]; first | rfl | (simp [zu, zv] <;> rfl)) | (simp [*, zu, zv] <;> rfl), by repeat (first | (with_reducible first | exact HB.out | apply zf | apply zd | apply ze) | exact HB.out)⟩
    ·rw [if_neg c10] at H
     have c10b0 : (t337.toList == (a0.extract ((ji3) : Int).toNat a0.size).toList) = false := beq_eq_false_iff_ne.mpr c10
     have c10b1 : (t337.toList != (a0.extract ((ji3) : Int).toNat a0.size).toList) = true := bne_iff_ne.mpr c10
     simp only [Option.some.injEq, Prod.mk.injEq] at H
     obtain ⟨rfl, rfl⟩ := H
     go_enter Tryz.func36, Tryz.ntmps36
     try go_wp2
     refine yK (n := 10) (S := fun w' => True) (ds := []) #[X,X,X,X,X,X,X,X,X,X] (by kernel_rfl) rfl rfl trivial (fun hHeld => ?_); refine ym yk.tab4 yk.bits4 (fun HT_ HW_ => ?_)
     first | (generalize hdrew_ : (World.drewN w nd).drew = w15 at hHeld ⊢; have n0_ : zc (Below _ _ w15) := zc.mk (by rw [← hdrew_]; exact ze (zd HB.out nd)); clear hdrew_; clear HB; have HB := n0_; clear n0_) | (have n0_ := zc.mk (ze HB.out); clear HB; have HB := n0_; clear n0_; generalize w.drew = w15 at HB hHeld ⊢)
     refine zq (i := 0) (N := some 12) (v := ?_) (a' := ?_) #[O,X,X,X,X,X,X,X,X,X] rfl rfl (zo HT_.out (by kernel_rfl)) (fun _ _ _ h => h) (Or.inl ⟨by rfl, ?_⟩) ?_ ?_
     rotate_left
     ·intro w'
      go_simp
      with_reducible rfl
     rotate_left
     ·simp only [Act.put, Ze, Zf, Zg, zl, zm]
      rfl
     refine zq (i := 1) (N := some 13) (v := ?_) (a' := ?_) #[O,O,X,X,X,X,X,X,X,X] rfl rfl (zo HT_.out (by kernel_rfl)) (fun _ _ _ h => h) (Or.inl ⟨by rfl, ?_⟩) ?_ ?_
     rotate_left
     ·intro w'
      go_simp
      with_reducible rfl
     rotate_left
     ·simp only [Act.put, Ze, Zf, Zg, zl, zm]
      rfl
     refine zq (i := 2) (N := some 14) (v := ?_) (a' := ?_) #[O,O,O,X,X,X,X,X,X,X] rfl rfl (zo HT_.out (by kernel_rfl)) (fun _ _ _ h => h) (Or.inl ⟨by rfl, ?_⟩) ?_ ?_
     rotate_left
     ·intro w'
      go_simp
      with_reducible rfl
     rotate_left
     ·simp only [Act.put, Ze, Zf, Zg, zl, zm]
      rfl
     refine zq (i := 5) (N := some 17) (v := ?_) (a' := ?_) #[O,O,O,X,X,O,X,X,X,X] rfl rfl (zo HT_.out (by kernel_rfl)) (fun _ _ _ h => h) (Or.inl ⟨by rfl, ?_⟩) ?_ ?_
     rotate_left
     ·intro w'
      go_simp
      with_reducible rfl
     rotate_left
     ·simp only [Act.put, Ze, Zf, Zg, zl, zm]
      rfl
     refine zq (i := 6) (N := some 18) (v := ?_) (a' := ?_) #[O,O,O,X,X,O,O,X,X,X] rfl rfl (zo HT_.out (by kernel_rfl)) (fun _ _ _ h => h) (Or.inl ⟨by rfl, ?_⟩) ?_ ?_
     rotate_left
     ·intro w'
      go_simp
      with_reducible rfl
     rotate_left
     ·simp only [Act.put, Ze, Zf, Zg, zl, zm]
      rfl
     refine zq (i := 7) (N := some 19) (v := ?_) (a' := ?_) #[O,O,O,X,X,O,O,O,X,X] rfl rfl (zo HT_.out (by kernel_rfl)) (fun _ _ _ h => h) (Or.inl ⟨by rfl, ?_⟩) ?_ ?_
     rotate_left
     ·intro w'
      go_simp
      with_reducible rfl
     rotate_left
     ·simp only [Act.put, Ze, Zf, Zg, zl, zm]
      rfl
     refine yO (i := 3) (N := some 15) #[O,O,O,O,X,O,O,O,X,X] rfl rfl (yo HT_.out (by kernel_rfl)) (by decide) (fun K hK => ?_)
     refine yq Tryz.func56 (by kernel_rfl) rfl #[.string (a0.extract 0 ((ji3) : Int).toNat)] (by rfl) rfl rfl (by (try simp only [Zh, List.map_cons, List.map_nil]); first | done | (simp only [hji3]; rfl) | rfl | (simp only [List.length_drop, List.length_take]; rfl)) ?_
     with_reducible refine (yW.calls k (a0.extract 0 ((ji3) : Int).toNat) t336 _ A6.out).mono ?_
     rintro e w' ⟨rfl, ⟨nd, rfl⟩⟩
     refine ⟨_, rfl, ?_⟩
     refine hK.out _ _ trivial (fun hHeld => ?_)
     clear hK K
     refine yF (a' := ?_) ?_ ?_
     rotate_left
     ·show Act.put _ (some 15) _ = _
      simp only [Act.put, Ze, Zf, Zg, zl, zm]
      rfl
     refine yO (i := 4) (N := some 16) #[O,O,O,O,O,O,O,O,X,X] rfl rfl (yo HT_.out (by kernel_rfl)) (by decide) (fun K hK => ?_)
     refine yq Tryz.func55 (by kernel_rfl) rfl #[.int .u32 t336] (by rfl) rfl rfl (by (try simp only [Zh, List.map_cons, List.map_nil]); first | done | rfl | (simp only [List.length_drop, List.length_take]; rfl)) ?_
     with_reducible refine (yp.calls t336 t337 _ A7.out).mono ?_
     rintro e w16 ⟨rfl, hb⟩
     refine ⟨_, rfl, ?_⟩
     have n0_ := zc.mk (zs (by repeat (first | (with_reducible first | exact HB.out | apply zf | apply zd | apply ze) | exact HB.out)) hb)
     clear HB
     have HB := n0_
     clear n0_
     (try clear hb)
     (try clear hb2)
     (try clear hk)
     (try clear hi)
     refine hK.out _ _ trivial (fun hHeld => ?_)
     clear hK K
     refine yF (a' := ?_) ?_ ?_
     rotate_left
     ·show Act.put _ (some 16) _ = _
      simp only [Act.put, Ze, Zf, Zg, zl, zm]
      rfl
     refine zq (i := 8) (N := some 20) (v := ?_) (a' := ?_) #[O,O,O,O,O,O,O,O,O,X] rfl rfl (zo HT_.out (by kernel_rfl)) (fun _ _ _ h => h) (Or.inl ⟨by rfl, ?_⟩) ?_ ?_
     rotate_left
     ·intro w'
      go_simp
      with_reducible rfl
     rotate_left
     ·simp only [Act.put, Ze, Zf, Zg, zl, zm]
      rfl
     refine zq (i := 9) (N := some 11) (v := ?_) (a' := ?_) #[O,O,O,O,O,O,O,O,O,O] rfl rfl (zo HT_.out (by kernel_rfl)) (fun _ _ _ h => h) (Or.inl ⟨by rfl, ?_⟩) ?_ ?_
     rotate_left
     ·intro w'
      go_simp
      with_reducible rfl
     rotate_left
     ·simp only [Act.put, Ze, Zf, Zg, zl, zm]
      rfl
     refine yZ (yE HT_.out (by kernel_rfl)) ?_
     try go_wp2
     go_ret2
     exact ⟨by first | rfl | (simp [zu, zv] <;> rfl) | (simp only [← hji3]; first | rfl | (simp [zu, zv] <;> rfl)) | (simp [*, zu, zv] <;> rfl), by repeat (first | (with_reducible first | exact HB.out | apply zf | apply zd | apply ze) | exact HB.out)⟩
   ·rw [if_neg c5] at H
    exact absurd H (by simp)
  ·rw [if_neg c4] at H
   exact absurd H (by simp)
mutual
def zF.j0 : Nat → ByteArray → Int → Bool → Option (Int × Int × Int)
 | 0, _, _, _ => none
 | k + 1, x0, x1, x18 => if x18 = true then (some (0, 0, 3)) else (zF.l0 k x0 x1 0 0)
def zF.l0 : Nat → ByteArray → Int → Int → Int → Option (Int × Int × Int)
 | 0, _, _, _, _ => none
 | k + 1, x0, x1, x7, x8 => if (wrap64 (x1 + x8)) < (x0.size : Int) then (if 0 ≤ (wrap64 (x1 + x8)) then (if x8 = 9 then (zF.j2 k x0 x1 x7 x8 (bt x0 (wrap64 (x1 + x8))) (decide ((bt x0 (wrap64 (x1 + x8))) > 1))) else (zF.j2 k x0 x1 x7 x8 (bt x0 (wrap64 (x1 + x8))) false)) else (none)) else (some (0, 0, 5))
def zF.j2 : Nat → ByteArray → Int → Int → Int → Int → Bool → Option (Int × Int × Int)
 | 0, _, _, _, _, _, _ => none
 | k + 1, x0, x1, x7, x8, x9, x37 => if x37 = true then (some (0, 0, 6)) else (if 0 ≤ (wrap64 (7 * x8)) then (if x9 ≥ 128 then (zF.l0 k x0 x1 (Go.bits .or .u64 x7 (shl .u64 (IntKind.u64.wrap (Go.bits .and .u8 x9 127)) (wrap64 (7 * x8)))) (wrap64 (x8 + 1))) else (if x9 = 0 then (zF.j3 k x1 (Go.bits .or .u64 x7 (shl .u64 (IntKind.u64.wrap (Go.bits .and .u8 x9 127)) (wrap64 (7 * x8)))) x8 (decide (x8 > 0))) else (zF.j3 k x1 (Go.bits .or .u64 x7 (shl .u64 (IntKind.u64.wrap (Go.bits .and .u8 x9 127)) (wrap64 (7 * x8)))) x8 false))) else (none))
def zF.j3 : Nat → Int → Int → Int → Bool → Option (Int × Int × Int)
 | 0, _, _, _, _ => none
 | k + 1, x1, x7, x8, x53 => if x53 = true then (some (0, 0, 6)) else (if (Go.bits .and .u64 x7 1) = 1 then (some (Go.bits .xor .i64 (-1) (wrap64 (x7 / 2)), wrap64 ((wrap64 (x1 + x8)) + 1), 0)) else (some (wrap64 (x7 / 2), wrap64 ((wrap64 (x1 + x8)) + 1), 0)))
end
def zF.f (k : Nat) (a0 : ByteArray) (a1 : Int) : Option (Int × Int × Int) := if a1 < 0 then (zF.j0 k a0 a1 true) else (zF.j0 k a0 a1 (decide (a1 > (a0.size : Int))))
theorem zF.calls (k : Nat) (a0 : ByteArray) (a1 : Int) (r1 : Int) (r2 : Int) (r3 : Int) (w : World) (h : zF.f k a0 a1 = some (r1, r2, r3)) :
  Calls Tryz.prog 75 #[.string a0, .int .i64 a1] w fun e w' => e = .returned (.tuple #[.int .i64 r1, .int .i64 r2, .int .i64 r3]) ∧ zC w w' := by
 have H : (if a1 < 0 then (zF.j0 k a0 a1 true) else (zF.j0 k a0 a1 (decide (a1 > (a0.size : Int))))) = some (r1, r2, r3) := h
 clear h
 have HC3 := zc.mk H
 clear H
 go_enter Tryz.func75, Tryz.ntmps75
 go_upto_region 1 with (fail)
 go_cut [18] (fun v18 wc => ∃ (kq : Nat) (x18_2 : Bool), v18 = .bool x18_2 ∧ zc (zF.j0 kq a0 a1 x18_2 = some (r1, r2, r3)) ∧ zc (kq ≤ k) ∧ zC w wc)
 case first =>
  have H := HC3.out
  clear HC3
  by_cases c4 : a1 < 0
  ·rw [if_pos c4] at H
   have c4b0 : decide (a1 < 0) = true := decide_eq_true c4
   clear c4
   (first | rw [c4b0] | (simp only [zl, zm]; rw [c4b0]) | skip)
   have H' := zc.mk H
   clear H
   go_wp2
   go_meet
   case rel => exact ⟨_, (true), (by first | rfl | (simp; done) | (simp [*]; done)), H', ⟨by first | omega | exact Nat.le_refl _⟩, by repeat (first | exact zC.refl _ | apply zC.step)⟩
  ·rw [if_neg c4] at H
   have c4b0 : decide (a1 < 0) = false := decide_eq_false c4
   clear c4
   (first | rw [c4b0] | (simp only [zl, zm]; rw [c4b0]) | skip)
   have H' := zc.mk H
   clear H
   go_wp2
   go_meet
   case rel => exact ⟨_, (decide (a1 > (a0.size : Int))), (by first | rfl | (simp; done) | (simp [*]; done)), H', ⟨by first | omega | exact Nat.le_refl _⟩, by repeat (first | exact zC.refl _ | apply zC.step)⟩
 case rest =>
  clear HC3
  try clear p2
  try clear c4
  try clear c4b0
  obtain ⟨kq, x18_2, rfl, HA, HJ2, ⟨mc2, rfl⟩⟩ := hcut
  cases kq with
  | zero => exact absurd HA.out (by simp [zF.j0])
  | succ kj2 =>
   have H := HA.out
   clear HA
   simp only [zF.j0] at H
   by_cases c5 : x18_2 = true
   ·subst c5
    have H1 : (some (0, 0, 3)) = some (r1, r2, r3) := by rw [if_pos rfl] at H; exact H
    clear H
    have H := H1
    clear H1
    simp only [Option.some.injEq, Prod.mk.injEq] at H
    obtain ⟨rfl, rfl, rfl⟩ := H
    go_wp2
    go_ret3
    exact ⟨by first | rfl | (simp; done) | (simp [*]; done), by repeat (first | exact zC.refl _ | apply zC.step)⟩
   ·replace c5 := Zk.mpr c5
    subst c5
    have H1 : (zF.l0 kj2 a0 a1 0 0) = some (r1, r2, r3) := by rw [if_neg (show ¬ (false = true) by decide)] at H; exact H
    clear H
    have H := H1
    clear H1
    have H' := zc.mk H
    clear H
    go_wp2
    go_loopg [7, 8] kj2 (fun kq v7 v8 w' => ∃ (x7_2 : Int) (x8_2 : Int), v7 = .int .u64 x7_2 ∧ v8 = .int .i64 x8_2 ∧ zc (zF.l0 kq a0 a1 x7_2 x8_2 = some (r1, r2, r3)) ∧ zc (kq ≤ kj2) ∧ zC w w')
    case atStart => exact ⟨(0), (0), (by first | rfl | (simp; done) | (simp [*]; done)), (by first | rfl | (simp; done) | (simp [*]; done)), H', ⟨Nat.le_refl _⟩, by repeat (first | exact zC.refl _ | apply zC.step)⟩
    case round =>
     clear H'
     try clear c2
     try clear p2
     try clear c4
     try clear c4b0
     try clear c5
     try clear p2
     obtain ⟨x7_2, x8_2, rfl, rfl, HA, HK2, ⟨m2, rfl⟩⟩ := hrel
     cases gk with
     | zero => exact absurd HA.out (by simp [zF.l0])
     | succ k2 =>
      have H := HA.out
      clear HA
      simp only [zF.l0] at H
      by_cases c6 : (wrap64 (a1 + x8_2)) < (a0.size : Int)
      ·rw [if_pos c6] at H
       have c6b0 : decide ((wrap64 (a1 + x8_2)) < (a0.size : Int)) = true := decide_eq_true c6
       clear c6
       obtain ⟨ji7, hji7⟩ : ∃ j_ : Int, (wrap64 (a1 + x8_2)) = j_ := ⟨_, rfl⟩
       replace H : (if 0 ≤ (ji7) then (if x8_2 = 9 then (zF.j2 k2 a0 a1 x7_2 x8_2 (bt a0 (ji7)) (decide ((bt a0 (ji7)) > 1))) else (zF.j2 k2 a0 a1 x7_2 x8_2 (bt a0 (ji7)) false)) else (none)) = some (r1, r2, r3) := by first | (rw [hji7] at H; exact H) | (simp only [hji7] at H ⊢; exact H)
       (try rw [hji7] at c6b0)
       have hji7w : (IntKind.i64.wrap (a1 + x8_2)) = ji7 := (zl _).trans hji7
       by_cases c8 : 0 ≤ (ji7)
       ·rw [if_pos c8] at H
        have c8b0 : decide (0 ≤ (ji7)) = true := decide_eq_true c8
        clear c8
        have HC10 := zc.mk H
        clear H
        have p9 : 0 ≤ ((ji7) : Int) := of_decide_eq_true (by first | (with_reducible assumption) | assumption)
        have q9 : (ji7) < (a0.size : Int) := of_decide_eq_true (by first | (with_reducible assumption) | assumption)
        have hx9 := vC a0 (ji7)
        replace p9 := eq_true p9
        replace q9 := eq_true q9
        go_upto_region 8 with (fail)
        go_cut [37] (fun v37 wc => ∃ (kq : Nat) (x37_9 : Bool), v37 = .bool x37_9 ∧ zc (zF.j2 kq a0 a1 x7_2 x8_2 (bt a0 (ji7)) x37_9 = some (r1, r2, r3)) ∧ zc (kq ≤ k2) ∧ zC w wc)
        case first =>
         have H := HC10.out
         clear HC10
         by_cases c11 : x8_2 = 9
         ·rw [if_pos c11] at H
          have c11b0 : (x8_2 == 9) = true := beq_iff_eq.mpr c11
          have c11b1 : (x8_2 != 9) = false := bne_eq_false_iff_eq.mpr c11
          clear c11
          (first | rw [c11b0] | (simp only [zl, zm]; rw [c11b0]) | skip)
          have H' := zc.mk H
          clear H
          go_wp2
          go_meet
          case rel => exact ⟨_, (decide ((bt a0 (ji7)) > 1)), (by first | rfl | (simp; done) | (simp only [← hji7] <;> (first | rfl | simp)) | (simp [*]; done)), H', ⟨by have := HJ2.out; have := HK2.out; first | omega | exact Nat.le_refl _⟩, by repeat (first | exact zC.refl _ | apply zC.step)⟩
         ·rw [if_neg c11] at H
          have c11b0 : (x8_2 == 9) = false := beq_eq_false_iff_ne.mpr c11
          have c11b1 : (x8_2 != 9) = true := bne_iff_ne.mpr c11
          (first | rw [c11b0] | (simp only [zl, zm]; rw [c11b0]) | skip)
          have H' := zc.mk H
          clear H
          go_wp2
          go_meet
          case rel => exact ⟨_, (false), (by first | rfl | (simp; done) | (simp [*]; done)), H', ⟨by have := HJ2.out; have := HK2.out; first | omega | exact Nat.le_refl _⟩, by repeat (first | exact zC.refl _ | apply zC.step)⟩
        case rest =>
         clear HC10
         try clear c1
         try clear c2
         try clear p2
         try clear c4
         try clear c4b0
         try clear c5
         try clear c6
         try clear c6b0
         try clear p6
         try clear c7
         try clear c8
         try clear c8b0
         try clear p9
         try clear q9
         try clear hx9
         try clear c11
         try clear c11b0
         try clear c11b1
         try clear p2
         try clear p9
         try clear q9
         obtain ⟨kq, x37_9, rfl, HA, HJ9, ⟨mc9, rfl⟩⟩ := hcut
         cases kq with
         | zero => exact absurd HA.out (by simp [zF.j2])
         | succ kj9 =>
          have H := HA.out
          clear HA
          simp only [zF.j2] at H
          by_cases c12 : x37_9 = true
          ·subst c12
           have H1 : (some (0, 0, 6)) = some (r1, r2, r3) := by rw [if_pos rfl] at H; exact H
           clear H
           have H := H1
           clear H1
           simp only [Option.some.injEq, Prod.mk.injEq] at H
           obtain ⟨rfl, rfl, rfl⟩ := H
           go_wp2
           go_ret3
           exact ⟨by first | rfl | (simp; done) | (simp only [← hji7] <;> (first | rfl | simp)) | (simp [*]; done), by repeat (first | exact zC.refl _ | apply zC.step)⟩
          ·replace c12 := Zk.mpr c12
           subst c12
           have H1 : (if 0 ≤ (wrap64 (7 * x8_2)) then (if (bt a0 (ji7)) ≥ 128 then (zF.l0 kj9 a0 a1 (Go.bits .or .u64 x7_2 (shl .u64 (IntKind.u64.wrap (Go.bits .and .u8 (bt a0 (ji7)) 127)) (wrap64 (7 * x8_2)))) (wrap64 (x8_2 + 1))) else (if (bt a0 (ji7)) = 0 then (zF.j3 kj9 a1 (Go.bits .or .u64 x7_2 (shl .u64 (IntKind.u64.wrap (Go.bits .and .u8 (bt a0 (ji7)) 127)) (wrap64 (7 * x8_2)))) x8_2 (decide (x8_2 > 0))) else (zF.j3 kj9 a1 (Go.bits .or .u64 x7_2 (shl .u64 (IntKind.u64.wrap (Go.bits .and .u8 (bt a0 (ji7)) 127)) (wrap64 (7 * x8_2)))) x8_2 false))) else (none)) = some (r1, r2, r3) := by rw [if_neg (show ¬ (false = true) by decide)] at H; exact H
           clear H
           have H := H1
           clear H1
           obtain ⟨ji13, hji13⟩ : ∃ j_ : Int, (wrap64 (7 * x8_2)) = j_ := ⟨_, rfl⟩
           replace H : (if 0 ≤ (ji13) then (if (bt a0 (ji7)) ≥ 128 then (zF.l0 kj9 a0 a1 (Go.bits .or .u64 x7_2 (shl .u64 (IntKind.u64.wrap (Go.bits .and .u8 (bt a0 (ji7)) 127)) (ji13))) (wrap64 (x8_2 + 1))) else (if (bt a0 (ji7)) = 0 then (zF.j3 kj9 a1 (Go.bits .or .u64 x7_2 (shl .u64 (IntKind.u64.wrap (Go.bits .and .u8 (bt a0 (ji7)) 127)) (ji13))) x8_2 (decide (x8_2 > 0))) else (zF.j3 kj9 a1 (Go.bits .or .u64 x7_2 (shl .u64 (IntKind.u64.wrap (Go.bits .and .u8 (bt a0 (ji7)) 127)) (ji13))) x8_2 false))) else (none)) = some (r1, r2, r3) := by first | (rw [hji13] at H; exact H) | (simp only [hji13] at H ⊢; exact H)
           have hji13w : (IntKind.i64.wrap (7 * x8_2)) = ji13 := (zl _).trans hji13
           by_cases c14 : 0 ≤ (ji13)
           ·rw [if_pos c14] at H
            have c14b0 := eq_true c14
            have c14b1 : decide (0 ≤ (ji13)) = true := decide_eq_true c14
            clear c14
            obtain ⟨ji15, hji15⟩ : ∃ j_ : Int, (shl .u64 (IntKind.u64.wrap (Go.bits .and .u8 (bt a0 (ji7)) 127)) (ji13)) = j_ := ⟨_, rfl⟩
            replace H : (if (bt a0 (ji7)) ≥ 128 then (zF.l0 kj9 a0 a1 (Go.bits .or .u64 x7_2 (ji15)) (wrap64 (x8_2 + 1))) else (if (bt a0 (ji7)) = 0 then (zF.j3 kj9 a1 (Go.bits .or .u64 x7_2 (ji15)) x8_2 (decide (x8_2 > 0))) else (zF.j3 kj9 a1 (Go.bits .or .u64 x7_2 (ji15)) x8_2 false))) = some (r1, r2, r3) := by first | (rw [hji15] at H; exact H) | (simp only [hji15] at H ⊢; exact H)
            have hji15_ : (IntKind.u64.wrap ((IntKind.u64.wrap (Go.bits .and .u8 (bt a0 (ji7)) 127)) * 2 ^ min (ji13).toNat 64)) = ji15 := hji15
            have hji15z : (ji13) ≤ 64 → (IntKind.u64.wrap ((IntKind.u64.wrap (Go.bits .and .u8 (bt a0 (ji7)) 127)) * 2 ^ (ji13).toNat)) = ji15 := jV hji15
            by_cases c16 : (bt a0 (ji7)) ≥ 128
            ·rw [if_pos c16] at H
             have c16b0 : decide (128 ≤ (bt a0 (ji7))) = true := decide_eq_true c16
             clear c16
             have H' := zc.mk H
             clear H
             go_wp2
             go_roundg kj9
             case measure => have := HJ2.out; have := HK2.out; have := HJ9.out; omega
             case rel => exact ⟨(Go.bits .or .u64 x7_2 (ji15)), (wrap64 (x8_2 + 1)), (by first | rfl | (simp; done) | (simp only [← hji15] <;> (first | rfl | simp)) | (simp [*]; done)), (by first | rfl | (simp; done) | (simp [*]; done)), H', ⟨by have := HJ2.out; have := HK2.out; have := HJ9.out; omega⟩, by repeat (first | exact zC.refl _ | apply zC.step)⟩
            ·rw [if_neg c16] at H
             have c16b0 : decide (128 ≤ (bt a0 (ji7))) = false := decide_eq_false c16
             clear c16
             have HC17 := zc.mk H
             clear H
             go_upto_region 12 with (fail)
             go_cut [53] (fun v53 wc => ∃ (kq : Nat) (x53_16 : Bool), v53 = .bool x53_16 ∧ zc (zF.j3 kq a1 (Go.bits .or .u64 x7_2 (ji15)) x8_2 x53_16 = some (r1, r2, r3)) ∧ zc (kq ≤ kj9) ∧ zC w wc)
             case first =>
              have H := HC17.out
              clear HC17
              by_cases c18 : (bt a0 (ji7)) = 0
              ·rw [if_pos c18] at H
               have c18b0 : ((bt a0 (ji7)) == 0) = true := beq_iff_eq.mpr c18
               have c18b1 : ((bt a0 (ji7)) != 0) = false := bne_eq_false_iff_eq.mpr c18
               clear c18
               (first | rw [c18b0] | (simp only [zl, zm]; rw [c18b0]) | skip)
               have H' := zc.mk H
               clear H
               go_wp2
               go_meet
               case rel => exact ⟨_, (decide (x8_2 > 0)), (by first | rfl | (simp; done) | (simp [*]; done)), H', ⟨by have := HJ2.out; have := HK2.out; have := HJ9.out; first | omega | exact Nat.le_refl _⟩, by repeat (first | exact zC.refl _ | apply zC.step)⟩
              ·rw [if_neg c18] at H
               have c18b0 : ((bt a0 (ji7)) == 0) = false := beq_eq_false_iff_ne.mpr c18
               have c18b1 : ((bt a0 (ji7)) != 0) = true := bne_iff_ne.mpr c18
               (first | rw [c18b0] | (simp only [zl, zm]; rw [c18b0]) | skip)
               have H' := zc.mk H
               clear H
               go_wp2
               go_meet
               case rel => exact ⟨_, (false), (by first | rfl | (simp; done) | (simp [*]; done)), H', ⟨by have := HJ2.out; have := HK2.out; have := HJ9.out; first | omega | exact Nat.le_refl _⟩, by repeat (first | exact zC.refl _ | apply zC.step)⟩
             case rest =>
              clear HC17
              try clear c1
              try clear c2
              try clear p2
              try clear c4
              try clear c4b0
              try clear c5
              try clear c6
              try clear c6b0
              try clear p6
              try clear c7
              try clear c8
              try clear c8b0
              try clear c9
              try clear p9
              try clear q9
              try clear hx9
              try clear c11
              try clear c11b0
              try clear c11b1
              try clear c12
              try clear c14
              try clear c14b0
              try clear c14b1
              try clear c16
              try clear c16b0
              try clear c18
              try clear c18b0
              try clear c18b1
              try clear p2
              try clear p6
              try clear p9
              try clear q9
              obtain ⟨kq, x53_16, rfl, HA, HJ16, ⟨mc16, rfl⟩⟩ := hcut
              cases kq with
              | zero => exact absurd HA.out (by simp [zF.j3])
              | succ kj16 =>
               have H := HA.out
               clear HA
               simp only [zF.j3] at H
               by_cases c19 : x53_16 = true
               ·subst c19
                have H1 : (some (0, 0, 6)) = some (r1, r2, r3) := by rw [if_pos rfl] at H; exact H
                clear H
                have H := H1
                clear H1
                simp only [Option.some.injEq, Prod.mk.injEq] at H
                obtain ⟨rfl, rfl, rfl⟩ := H
                go_wp2
                go_ret3
                exact ⟨by first | rfl | (simp; done) | (simp only [← hji7, ← hji13, ← hji15] <;> (first | rfl | simp)) | (simp [*]; done), by repeat (first | exact zC.refl _ | apply zC.step)⟩
               ·replace c19 := Zk.mpr c19
                subst c19
                have H1 : (if (Go.bits .and .u64 (Go.bits .or .u64 x7_2 (ji15)) 1) = 1 then (some (Go.bits .xor .i64 (-1) (wrap64 ((Go.bits .or .u64 x7_2 (ji15)) / 2)), wrap64 ((wrap64 (a1 + x8_2)) + 1), 0)) else (some (wrap64 ((Go.bits .or .u64 x7_2 (ji15)) / 2), wrap64 ((wrap64 (a1 + x8_2)) + 1), 0))) = some (r1, r2, r3) := by rw [if_neg (show ¬ (false = true) by decide)] at H; exact H
                clear H
                have H := H1
                clear H1
                by_cases c20 : (Go.bits .and .u64 (Go.bits .or .u64 x7_2 (ji15)) 1) = 1
                ·rw [if_pos c20] at H
                 have c20b0 : ((Go.bits .and .u64 (Go.bits .or .u64 x7_2 (ji15)) 1) == 1) = true := beq_iff_eq.mpr c20
                 have c20b1 : ((Go.bits .and .u64 (Go.bits .or .u64 x7_2 (ji15)) 1) != 1) = false := bne_eq_false_iff_eq.mpr c20
                 clear c20
                 simp only [Option.some.injEq, Prod.mk.injEq] at H
                 obtain ⟨rfl, rfl, rfl⟩ := H
                 go_wp2
                 go_ret3
                 exact ⟨by first | rfl | (simp; done) | (simp only [← hji7, ← hji13, ← hji15] <;> (first | rfl | simp)) | (simp [*]; done), by repeat (first | exact zC.refl _ | apply zC.step)⟩
                ·rw [if_neg c20] at H
                 have c20b0 : ((Go.bits .and .u64 (Go.bits .or .u64 x7_2 (ji15)) 1) == 1) = false := beq_eq_false_iff_ne.mpr c20
                 have c20b1 : ((Go.bits .and .u64 (Go.bits .or .u64 x7_2 (ji15)) 1) != 1) = true := bne_iff_ne.mpr c20
                 simp only [Option.some.injEq, Prod.mk.injEq] at H
                 obtain ⟨rfl, rfl, rfl⟩ := H
                 go_wp2
                 go_ret3
                 exact ⟨by first | rfl | (simp; done) | (simp only [← hji7, ← hji13, ← hji15] <;> (first | rfl | simp)) | (simp [*]; done), by repeat (first | exact zC.refl _ | apply zC.step)⟩
           ·rw [if_neg c14] at H
            exact absurd H (by simp)
       ·rw [if_neg c8] at H
        exact absurd H (by simp)
      ·rw [if_neg c6] at H
       have c6b0 : decide ((wrap64 (a1 + x8_2)) < (a0.size : Int)) = false := decide_eq_false c6
       clear c6
       simp only [Option.some.injEq, Prod.mk.injEq] at H
       obtain ⟨rfl, rfl, rfl⟩ := H
       go_wp2
       go_ret3
       exact ⟨by first | rfl | (simp; done) | (simp [*]; done), by repeat (first | exact zC.refl _ | apply zC.step)⟩
def zS (w0 W : World) (g : Nat) (f0 : ByteArray) (f1 : Int) (f2 : Int) : Prop := W.heap[g]? = some (.cells #[.string f0, .int .i64 f1, .int .i64 f2] 67 (0, 0)) ∧ w0.heap.size ≤ g
theorem zS.grown {w0 W : World} {g : Nat} {f0 : ByteArray} {f1 : Int} {f2 : Int} {W1 : World} {row : Option Nat} (h : zS w0 W g f0 f1 f2) (hw : W.grownBy W1 row) (hne : some g ≠ row) : zS w0 W1 g f0 f1 f2 := by
 obtain ⟨hb, hg⟩ := h
 exact ⟨jY hb hw hne, hg⟩
theorem zS.kept {w0 W : World} {g : Nat} {f0 : ByteArray} {f1 : Int} {f2 : Int} {W1 : World} {S : Nat → Prop} (h : zS w0 W g f0 f1 f2) (hk : yy W W1 S) (hne : ¬ S g) : zS w0 W1 g f0 f1 f2 := by
 obtain ⟨hb, hg⟩ := h
 exact ⟨vl hb hk hne, hg⟩
theorem zS.below {w0 W : World} {g : Nat} {f0 : ByteArray} {f1 : Int} {f2 : Int} {W1 : World} (h : zS w0 W g f0 f1 f2) (hw : Below W.heap.size W W1) : zS w0 W1 g f0 f1 f2 := h.grown (qg hw none) (by simp)
theorem zS.alloc {w0 W : World} {g : Nat} {f0 : ByteArray} {f1 : Int} {f2 : Int} (h : zS w0 W g f0 f1 f2) (o : Obj) : zS w0 (W.alloc o) g f0 f1 f2 := h.below (zf (Below.refl _ _) o)
theorem zS.drewN {w0 W : World} {g : Nat} {f0 : ByteArray} {f1 : Int} {f2 : Int} (h : zS w0 W g f0 f1 f2) (m : Nat) : zS w0 (W.drewN m) g f0 f1 f2 := h
theorem zS.drew {w0 W : World} {g : Nat} {f0 : ByteArray} {f1 : Int} {f2 : Int} (h : zS w0 W g f0 f1 f2) : zS w0 W.drew g f0 f1 f2 := h
theorem zS.at_ {w0 W : World} {g : Nat} {f0 : ByteArray} {f1 : Int} {f2 : Int} {w' : World} {m : Nat} (hq : W.drewN m = w') (h : zS w0 W g f0 f1 f2) : zS w0 w' g f0 f1 f2 := by subst hq; exact zS.drewN h m
theorem zS.apart {w0 W : World} {g : Nat} {f0 : ByteArray} {f1 : Int} {f2 : Int} {α : Type} {d : Kd α} {e : Nat} {base : Nat} {ok : Nat → Prop} {v : Value} {xs : List α} (h : zS w0 W g f0 f1 f2) (ho : d.R e W base ok v xs) (ht : ∀ q, q ∈ e :: d.E → q ≠ 67) : d.R e W base (fun k => ok k ∧ k ≠ g) v xs := by
 obtain ⟨hb, hg⟩ := h
 exact Kd.R_types ho hb ht
theorem zS.own_ne {w0 W : World} {g : Nat} {f0 : ByteArray} {f1 : Int} {f2 : Int} {α : Type} {d : Kd α} {e : Nat} {base : Nat} {ok : Nat → Prop} {v : Value} {xs : List α} (h : zS w0 W g f0 f1 f2) (ho : d.R e W base ok v xs) (ht : e ≠ 67) : some g ≠ v.ownBlock := by
 obtain ⟨hb, hg⟩ := h
 exact Kd.R_ne ho hb ht
theorem zS.ge {w0 W : World} {g : Nat} {f0 : ByteArray} {f1 : Int} {f2 : Int} (h : zS w0 W g f0 f1 f2) : w0.heap.size ≤ g := by
 obtain ⟨hb, hg⟩ := h
 exact hg
theorem zS.ne_blk {w0 W : World} {g : Nat} {f0 : ByteArray} {f1 : Int} {f2 : Int} {a : Nat} {cs : Array Value} {t : TypeId} {fr : Nat × Nat} (h : zS w0 W g f0 f1 f2) (hb2 : W.heap[a]? = some (.cells cs t fr)) (ht : t ≠ 67) : g ≠ a := by
 obtain ⟨hb, hg⟩ := h
 rintro rfl
 rw [hb] at hb2
 injection hb2 with hb2
 injection hb2 with _ ht2
 exact ht ht2.symm
theorem zS.far {w0 W : World} {g : Nat} {f0 : ByteArray} {f1 : Int} {f2 : Int} {p : Addr} (h : zS w0 W g f0 f1 f2) (hne : g ≠ p.block) (u : Value) : zS w0 (W.setCell p u) g f0 f1 f2 := by
 obtain ⟨hb, hg⟩ := h
 exact ⟨zJ hb hne u, hg⟩
theorem jk {W : World} {g : Nat} {f0 : ByteArray} {f1 : Int} {f2 : Int} (h : W.heap[g]? = some (.cells #[.string f0, .int .i64 f1, .int .i64 f2] 67 (0, 0))) : W.cell? ⟨g, 0, none⟩ = some (.string f0) := (za h 0).trans rfl
theorem zS.set_0 {w0 W : World} {g : Nat} {f0 : ByteArray} {f1 : Int} {f2 : Int} (h : zS w0 W g f0 f1 f2) (x : ByteArray) : zS w0 (W.setCell ⟨g, 0, none⟩ (.string x)) g x f1 f2 := by
 obtain ⟨hb, hg⟩ := h
 exact ⟨by simpa using xz hb 0 (.string x), hg⟩
theorem je {W : World} {g : Nat} {f0 : ByteArray} {f1 : Int} {f2 : Int} (h : W.heap[g]? = some (.cells #[.string f0, .int .i64 f1, .int .i64 f2] 67 (0, 0))) : W.cell? ⟨g, 1, none⟩ = some (.int .i64 f1) := (za h 1).trans rfl
theorem zS.set_1 {w0 W : World} {g : Nat} {f0 : ByteArray} {f1 : Int} {f2 : Int} (h : zS w0 W g f0 f1 f2) (x : Int) : zS w0 (W.setCell ⟨g, 1, none⟩ (.int .i64 x)) g f0 x f2 := by
 obtain ⟨hb, hg⟩ := h
 exact ⟨by simpa using xz hb 1 (.int .i64 x), hg⟩
theorem jl {W : World} {g : Nat} {f0 : ByteArray} {f1 : Int} {f2 : Int} (h : W.heap[g]? = some (.cells #[.string f0, .int .i64 f1, .int .i64 f2] 67 (0, 0))) : W.cell? ⟨g, 2, none⟩ = some (.int .i64 f2) := (za h 2).trans rfl
theorem zS.set_2 {w0 W : World} {g : Nat} {f0 : ByteArray} {f1 : Int} {f2 : Int} (h : zS w0 W g f0 f1 f2) (x : Int) : zS w0 (W.setCell ⟨g, 2, none⟩ (.int .i64 x)) g f0 f1 x := by
 obtain ⟨hb, hg⟩ := h
 exact ⟨by simpa using xz hb 2 (.int .i64 x), hg⟩
def yh.f (k : Nat) (s0_0 : ByteArray) (s0_1 : Int) (s0_2 : Int)  : Option (Int × ByteArray × Int × Int) := if s0_2 = 0 then ((zF.f k s0_0 s0_1).bind fun bt338 => (some (bt338.1, s0_0, bt338.2.1, bt338.2.2))) else (some (0, s0_0, s0_1, s0_2))
theorem yh.calls (k : Nat) (g : Nat) (s0_0 : ByteArray) (s0_1 : Int) (s0_2 : Int)  (r1 : Int) (r2 : ByteArray) (r3 : Int) (r4 : Int) (w0 w : World) (hI : zS w0 w g s0_0 s0_1 s0_2) (hB : Below w0.heap.size w0 w) (h : yh.f k s0_0 s0_1 s0_2 = some (r1, r2, r3, r4)) :
  Calls Tryz.prog 74 #[.pointer (some ⟨g, 0, none⟩), .func (Fn.func 75) #[] #[]] w fun e w' => e = .returned (.int .i64 r1) ∧ zS w0 w' g r2 r3 r4 ∧ Below w0.heap.size w0 w' ∧ ye w w' g none := by
 have HI0 := zc.mk hI
 have HK := zc.mk (ye.refl w g none)
 have HL := zc.mk hB.size
 clear hI
 have HW0 := zc.mk hB.size
 have HB := zc.mk hB
 clear hB
 have H : (if s0_2 = 0 then ((zF.f k s0_0 s0_1).bind fun bt338 => (some (bt338.1, s0_0, bt338.2.1, bt338.2.2))) else (some (0, s0_0, s0_1, s0_2))) = some (r1, r2, r3, r4) := h
 clear h
 by_cases c3 : s0_2 = 0
 ·rw [if_pos c3] at H
  have c3b0 : (s0_2 == 0) = true := beq_iff_eq.mpr c3
  have c3b1 : (s0_2 != 0) = false := bne_eq_false_iff_eq.mpr c3
  clear c3
  replace H := Zi.mp H
  obtain ⟨⟨t338, t339, t340⟩, A40, H⟩ := H
  replace H : (some (t338, s0_0, t339, t340)) = some (r1, r2, r3, r4) := H
  have A4 := zc.mk A40
  clear A40
  simp only [Option.some.injEq, Prod.mk.injEq] at H
  obtain ⟨rfl, rfl, rfl, rfl⟩ := H
  obtain ⟨HGz5, hgz5⟩ := HI0.out
  have hcz5_0 := jk HGz5
  have hcz5_1 := je HGz5
  have hcz5_2 := jl HGz5
  have hfz5_0 := zb HGz5 0
  have hfz5_1 := zb HGz5 1
  have hfz5_2 := zb HGz5 2
  clear HGz5 hgz5
  go_enter Tryz.func74, Tryz.ntmps74
  go_wp2_with (first | (go_at_call 75; (with_reducible refine (zF.calls k s0_0 s0_1 t338 t339 t340 _ A4.out).mono ?_); rintro e w' ⟨rfl, ⟨nd, rfl⟩⟩; (try first | exact ⟨rfl, _, World.drewN_drewN _ _ _⟩ | exact ⟨rfl, _, Eq.trans (World.drewN_drewN _ _ _) (congrArg (World.drewN _) (Nat.add_assoc _ _ _))⟩)))
  repeat (go_quiet (first | (go_at_call 75; (with_reducible refine (zF.calls k s0_0 s0_1 t338 t339 t340 _ A4.out).mono ?_); rintro e w' ⟨rfl, ⟨nd, rfl⟩⟩; (try first | exact ⟨rfl, _, World.drewN_drewN _ _ _⟩ | exact ⟨rfl, _, Eq.trans (World.drewN_drewN _ _ _) (congrArg (World.drewN _) (Nat.add_assoc _ _ _))⟩))); try go_wp2_with (first | (go_at_call 75; (with_reducible refine (zF.calls k s0_0 s0_1 t338 t339 t340 _ A4.out).mono ?_); rintro e w' ⟨rfl, ⟨nd, rfl⟩⟩; (try first | exact ⟨rfl, _, World.drewN_drewN _ _ _⟩ | exact ⟨rfl, _, Eq.trans (World.drewN_drewN _ _ _) (congrArg (World.drewN _) (Nat.add_assoc _ _ _))⟩))))
  go_ret
  exact ⟨by first | rfl | (simp [zu, zv] <;> rfl) | (simp [*, zu, zv] <;> rfl), by repeat (first | (with_reducible first | exact HI0.out | apply zS.alloc | apply zS.drewN | apply zS.drew | apply zS.set_0 | apply zS.set_1 | apply zS.set_2) | exact HI0.out), by repeat (first | (with_reducible first | exact HB.out | apply zf | apply zd | apply ze | refine zg ?_ (zS.ge HI0.out)) | exact HB.out), by repeat (first | (with_reducible first | exact HK.out | apply ye.set_ | apply xR | apply qa | apply xQ) | exact HK.out)⟩
 ·rw [if_neg c3] at H
  have c3b0 : (s0_2 == 0) = false := beq_eq_false_iff_ne.mpr c3
  have c3b1 : (s0_2 != 0) = true := bne_iff_ne.mpr c3
  simp only [Option.some.injEq, Prod.mk.injEq] at H
  obtain ⟨rfl, rfl, rfl, rfl⟩ := H
  obtain ⟨HGz6, hgz6⟩ := HI0.out
  have hcz6_0 := jk HGz6
  have hcz6_1 := je HGz6
  have hcz6_2 := jl HGz6
  have hfz6_0 := zb HGz6 0
  have hfz6_1 := zb HGz6 1
  have hfz6_2 := zb HGz6 2
  clear HGz6 hgz6
  go_enter Tryz.func74, Tryz.ntmps74
  go_wp2
  repeat (go_quiet (fail); try go_wp2)
  go_ret
  exact ⟨by first | rfl | (simp [zu, zv] <;> rfl) | (simp [*, zu, zv] <;> rfl), by repeat (first | (with_reducible first | exact HI0.out | apply zS.alloc | apply zS.drewN | apply zS.drew | apply zS.set_0 | apply zS.set_1 | apply zS.set_2) | exact HI0.out), by repeat (first | (with_reducible first | exact HB.out | apply zf | apply zd | apply ze | refine zg ?_ (zS.ge HI0.out)) | exact HB.out), by repeat (first | (with_reducible first | exact HK.out | apply ye.set_ | apply xR | apply qa | apply xQ) | exact HK.out)⟩
def z6.f (k : Nat) (s0_0 : ByteArray) (s0_1 : Int) (s0_2 : Int) : Option (Int × ByteArray × Int × Int) := (yh.f k s0_0 s0_1 s0_2).bind fun bt341 => (some (bt341.1, bt341.2.1, bt341.2.2.1, bt341.2.2.2))
theorem z6.calls (k : Nat) (g : Nat) (s0_0 : ByteArray) (s0_1 : Int) (s0_2 : Int) (r1 : Int) (r2 : ByteArray) (r3 : Int) (r4 : Int) (w0 w : World) (hI : zS w0 w g s0_0 s0_1 s0_2) (hB : Below w0.heap.size w0 w) (h : z6.f k s0_0 s0_1 s0_2 = some (r1, r2, r3, r4)) :
  Calls Tryz.prog 37 #[.pointer (some ⟨g, 0, none⟩)] w fun e w' => e = .returned (.int .i64 r1) ∧ zS w0 w' g r2 r3 r4 ∧ Below w0.heap.size w0 w' ∧ ye w w' g none := by
 have HI0 := zc.mk hI
 have HK := zc.mk (ye.refl w g none)
 have HL := zc.mk hB.size
 clear hI
 have HW0 := zc.mk hB.size
 have HB := zc.mk hB
 clear hB
 have H : ((yh.f k s0_0 s0_1 s0_2).bind fun bt341 => (some (bt341.1, bt341.2.1, bt341.2.2.1, bt341.2.2.2))) = some (r1, r2, r3, r4) := h
 clear h
 replace H := Zi.mp H
 obtain ⟨⟨t341, t342, t343, t344⟩, A20, H⟩ := H
 replace H : (some (t341, t342, t343, t344)) = some (r1, r2, r3, r4) := H
 have A2 := zc.mk A20
 clear A20
 simp only [Option.some.injEq, Prod.mk.injEq] at H
 obtain ⟨rfl, rfl, rfl, rfl⟩ := H
 go_enter Tryz.func37, Tryz.ntmps37
 go_wp2_with (first | ((with_reducible refine yz (f := 74) rfl ?_); refine xq (some 4) rfl rfl Tryz.func74 (by kernel_rfl) rfl #[.pointer (some ⟨g, 0, none⟩), .func (Fn.func 75) #[] #[]] rfl (by (try simp only [Zh, List.map_cons, List.map_nil]); first | done | rfl | (simp only [List.length_drop, List.length_take]; rfl)) ?_; (with_reducible refine (yh.calls k g s0_0 s0_1 s0_2 t341 t342 t343 t344 w0 _ ?side1 ?side2 A2.out).mono ?_); (case side1 => repeat (first | (with_reducible first | exact HI0.out | apply zS.alloc | apply zS.drewN | apply zS.drew | apply zS.set_0 | apply zS.set_1 | apply zS.set_2) | exact HI0.out)); (case side2 => repeat (first | (with_reducible first | exact HB.out | apply zf | apply zd | apply ze | refine zg ?_ (zS.ge HI0.out)) | exact HB.out)); rintro e w3 ⟨rfl, hi, hb, hk⟩; refine ⟨_, rfl, ?_⟩; have n0_ := zc.mk (ye.trans (by repeat (first | (with_reducible first | exact HK.out | apply ye.set_ | apply xR | apply qa | apply xQ) | exact HK.out)) hk (.inl rfl)); have n1_ := zc.mk (hb); have n2_ := zc.mk (hi); clear HK; clear HB; clear HI0; have HK := n0_; have HB := n1_; have HI0 := n2_; clear n0_ n1_ n2_; (try clear hb); (try clear hb2); (try clear hk); (try clear hi)))
 go_ret
 exact ⟨by first | rfl | (simp [zu, zv] <;> rfl) | (simp [*, zu, zv] <;> rfl), by repeat (first | (with_reducible first | exact HI0.out | apply zS.alloc | apply zS.drewN | apply zS.drew | apply zS.set_0 | apply zS.set_1 | apply zS.set_2) | exact HI0.out), by repeat (first | (with_reducible first | exact HB.out | apply zf | apply zd | apply ze | refine zg ?_ (zS.ge HI0.out)) | exact HB.out), by repeat (first | (with_reducible first | exact HK.out | apply ye.set_ | apply xR | apply qa | apply xQ) | exact HK.out)⟩
end Go.Proofs.YtepipnpfggnadaaGreat.Q
