/- Texts of this session laid together (shrink.py): what the claim's law rests on. -/
import Derived.Below
import Derived.Deep.Draws
import Derived.Deep.AppendLies
import Derived.Maps.AppendAt
import Derived.OwnWalk
import Derived.Laws.BytesArg
import Derived.Laws.MakeOwn
import Derived.Laws.OwnMore
import Derived.Deep.OwnRows
import Derived.Tactics
import Derived.Lib.ConvBytes
import Derived.Laws.Slices
import Derived.WalkKit
import Derived.KernelRfl
import Derived.RowKit3
import Derived.Deep.LoopGhost
import Derived.Deep.QuietTactic
import Derived.BigQuiet
import Derived.WideLaws
import Derived.Deep.DeepCutAuto
import Derived.Deep.CutBlock
import Derived.Deep.RegionHeld3
import Derived.Laws.Rows
import Derived.Lib.AppendStr
import Derived.ArgAppend
import Derived.Laws.IdiomCopy
import Derived.RowKit
import Derived.OrdersHeld
import Derived.Laws.BitsLemmas
import Derived.Laws.StructEq
import Derived.Test.YtbfehjncllkogaaProg
import Derived.WalkMore
import Derived.Lib.Strings
import Derived.Outline
import Derived.Test.YtbfehjncllkogaaTCodecBackh
set_option linter.unusedVariables false
set_option linter.unusedSimpArgs false
set_option maxRecDepth 100000
set_option maxHeartbeats 8000000
open List renaming setIfInBounds_toArray → Vt
open List renaming set_cons_zero → Vu
open List renaming set_cons_succ → Vv
open List renaming map_toArray → Vw
open Option renaming bind_eq_some_iff → Vx
open Go.World renaming block_lt_of_cell? → Vy
open ByteArray renaming size_append → Vz
open Bool renaming eq_false_iff → VA
open List renaming length_append → VB
namespace Go.Proofs.Ytbfehjncllkogaa.Q
open Go.RowKit Go.Proofs.YtbfehjncllkogaaW.PrintWords Go.Proofs.YtbfehjncllkogaaW.PrintLast Go.Proofs.YtbfehjncllkogaaW.PrintMore
attribute [local go_sem] qw qx qN qK qg qh qz qu
def yK.f (k : Nat)  : Option (Bool) := (zX.f k 1 2 (⟨#[97]⟩ : ByteArray) 0 ([] : List Int) (-1)).bind fun bt249 => ((yB.f k bt249.1 0).bind fun bt251 => (if bt249.1.toList = ([2, 4, 2, 97, 0, 0, 1] : List UInt8) then (if bt249.2 = 0 then (if bt251.2.1 = 2 then (if bt251.2.2.2.2.2.2.1 = 7 then (some (bt251.2.2.2.2.2.2.2 == 0)) else (some false)) else (some false)) else (some false)) else (some false)))
theorem yK.mono : ∀ k, LeO (yK.f k ) (yK.f (k + 1) ) := by
 intro  k
 unfold yK.f
 repeat' first
   | (with_reducible exact zX.mono _ _ _ _ _ _ _)
   | (with_reducible exact yB.mono _ _ _)
   | (with_reducible exact LeO.refl _)
   | (with_reducible exact LeO.none _)
   | (with_reducible refine LeO.ite ?_ ?_)
   | (with_reducible refine LeO.bind ?_ (fun _ => ?_))
   | exact zX.mono _ _ _ _ _ _ _
   | exact yB.mono _ _ _
   | exact LeO.none _
   | refine LeO.ite ?_ ?_
   | refine LeO.bind ?_ (fun _ => ?_)
theorem yK.calls (k : Nat)  (r : Bool) (w : World) (h : yK.f k  = some r) :
  Calls Try.prog 11 #[] w fun e w' => e = .returned (.bool r) ∧ Below w.heap.size w w' := by
 have hu24 := Try.underlying24
 have HB := za.mk (Below.refl w.heap.size w)
 have H : ((zX.f k 1 2 (⟨#[97]⟩ : ByteArray) 0 ([] : List Int) (-1)).bind fun bt249 => ((yB.f k bt249.1 0).bind fun bt251 => (if bt249.1.toList = ([2, 4, 2, 97, 0, 0, 1] : List UInt8) then (if bt249.2 = 0 then (if bt251.2.1 = 2 then (if bt251.2.2.2.2.2.2.1 = 7 then (some (bt251.2.2.2.2.2.2.2 == 0)) else (some false)) else (some false)) else (some false)) else (some false)))) = some r := h
 clear h
 replace H := Vx.mp H
 obtain ⟨⟨t249, t250⟩, A10, H⟩ := H
 replace H : ((yB.f k t249 0).bind fun bt251 => (if t249.toList = ([2, 4, 2, 97, 0, 0, 1] : List UInt8) then (if t250 = 0 then (if bt251.2.1 = 2 then (if bt251.2.2.2.2.2.2.1 = 7 then (some (bt251.2.2.2.2.2.2.2 == 0)) else (some false)) else (some false)) else (some false)) else (some false))) = some r := H
 have A1 := za.mk A10
 clear A10
 replace H := Vx.mp H
 obtain ⟨⟨t251, t252, t253, t254, t255, t258, t259, t260⟩, A20, H⟩ := H
 replace H : (if t249.toList = ([2, 4, 2, 97, 0, 0, 1] : List UInt8) then (if t250 = 0 then (if t252 = 2 then (if t259 = 7 then (some (t260 == 0)) else (some false)) else (some false)) else (some false)) else (some false)) = some r := H
 have A2 := za.mk A20
 clear A20
 by_cases c3 : t249.toList = ([2, 4, 2, 97, 0, 0, 1] : List UInt8)
 ·rw [if_pos c3] at H
  have c3b0 : (t249.toList == ([2, 4, 2, 97, 0, 0, 1] : List UInt8)) = true := beq_iff_eq.mpr c3
  have c3b1 : (t249.toList != ([2, 4, 2, 97, 0, 0, 1] : List UInt8)) = false := bne_eq_false_iff_eq.mpr c3
  clear c3
  by_cases c4 : t250 = 0
  ·rw [if_pos c4] at H
   have c4b0 : (t250 == 0) = true := beq_iff_eq.mpr c4
   have c4b1 : (t250 != 0) = false := bne_eq_false_iff_eq.mpr c4
   clear c4
   by_cases c5 : t252 = 2
   ·rw [if_pos c5] at H
    have c5b0 : (t252 == 2) = true := beq_iff_eq.mpr c5
    have c5b1 : (t252 != 2) = false := bne_eq_false_iff_eq.mpr c5
    clear c5
    by_cases c6 : t259 = 7
    ·rw [if_pos c6] at H
     have c6b0 : (t259 == 7) = true := beq_iff_eq.mpr c6
     have c6b1 : (t259 != 7) = false := bne_eq_false_iff_eq.mpr c6
     clear c6
     obtain rfl := Option.some.inj H
     go_enter Try.func11, Try.ntmps11
     go_wp2_with (first | ((with_reducible refine zL (f := 7) rfl ?_); refine z8 (some 8) rfl rfl Try.func7 (by kernel_rfl) rfl #[.agg #[.int .i64 1, .int .i64 2, .string (⟨#[97]⟩ : ByteArray), .int .i64 0, .slice none 0 0, .int .i64 (-1)]] rfl (by (try simp only [Vw, List.map_cons, List.map_nil]); first | done | rfl | (simp only [List.length_drop, List.length_take]; rfl)) ?_; (refine (zX.calls k 1 2 (⟨#[97]⟩ : ByteArray) 0 _ _ ([] : List Int) (-1) t249 t250 _ ?side1 ?side2 A1.out).mono ?_); (case side1 => exact Kd.C_nil _ _); (case side2 => exact Nat.le_refl _); rintro e w7 ⟨rfl, hb⟩; refine ⟨_, rfl, ?_⟩; have n0_ := za.mk (zi (by repeat (first | (with_reducible first | exact HB.out | apply zc | apply zb | apply zd) | exact HB.out)) hb); clear HB; have HB := n0_; clear n0_; (try clear hb); (try clear hb2); (try clear hk); (try clear hi)) | ((with_reducible refine zL (f := 28) rfl ?_); refine z8 (some 13) rfl rfl Try.func28 (by kernel_rfl) rfl #[.string t249, .int .i64 0] rfl (by (try simp only [Vw, List.map_cons, List.map_nil]); first | done | rfl | (simp only [List.length_drop, List.length_take]; rfl)) ?_; (with_reducible refine (yB.calls k t249 0 t251 t252 t253 t254 t255 t258 t259 t260 _ A2.out).mono ?_); rintro e w8 ⟨v256, rfl, ho0, hb⟩; refine ⟨_, rfl, ?_⟩; have n0_ := za.mk (Kd.R_lower ho0 (zp (by repeat (first | (with_reducible first | exact HB.out | apply zc | apply zb | apply zd) | exact HB.out)))); have n1_ := za.mk (zi (by repeat (first | (with_reducible first | exact HB.out | apply zc | apply zb | apply zd) | exact HB.out)) hb); clear HB; have HO257 := n0_; have HB := n1_; clear n0_ n1_; (try clear hb); (try clear hb2); (try clear hk); (try clear hi); (try clear ho0)) | ((with_reducible refine zC (N := 3) rfl ?_); refine zF ?hg (N := 3) ?hd (cs := #[.int .i64 0, .int .i64 0, .string (⟨#[]⟩ : ByteArray), .int .i64 0, .slice none 0 0, .int .i64 0]) (t := 24) ?hr ?_; (case hd => rfl); (case hg => rfl); (case hr => first | (go_simp; done) | (go_simp; rfl)); intro gb261 hg w9 hbox hb; have n0_ := za.mk (Kd.R_below (by (with_reducible repeat (first | apply Kd.R_alloc | apply Kd.R_drewN | apply Kd.R_drew)); exact HO257.out) hb); have n1_ := za.mk (zi (by repeat (first | (with_reducible first | exact HB.out | apply zc | apply zb | apply zd) | exact HB.out)) hb); have n2_ := za.mk (hbox); have n3_ := za.mk ((by rw [hg]; exact (zp (by repeat (first | (with_reducible first | exact HB.out | apply zc | apply zb | apply zd) | exact HB.out))) : w.heap.size ≤ gb261)); have n4_ := za.mk ((by rw [hg]; exact (zp (by repeat (first | (with_reducible first | exact HB.out | apply zc | apply zb | apply zd) | exact HB.out))) : w.heap.size ≤ gb261)); clear HO257; clear HB; have HO257 := n0_; have HB := n1_; have BK261 := n2_; have GW261 := n3_; have GE261 := n4_; clear n0_ n1_ n2_ n3_ n4_; clear hb hbox hg; have hcz10_0 : w9.cell? ⟨gb261, 0, none⟩ = some (.int .i64 0) := (zg BK261.out 0).trans rfl; have hcz10_1 : w9.cell? ⟨gb261, 1, none⟩ = some (.int .i64 0) := (zg BK261.out 1).trans rfl; have hcz10_2 : w9.cell? ⟨gb261, 2, none⟩ = some (.string (⟨#[]⟩ : ByteArray)) := (zg BK261.out 2).trans rfl; have hcz10_3 : w9.cell? ⟨gb261, 3, none⟩ = some (.int .i64 0) := (zg BK261.out 3).trans rfl; have hcz10_4 : w9.cell? ⟨gb261, 4, none⟩ = some (.slice none 0 0) := (zg BK261.out 4).trans rfl; have hcz10_5 : w9.cell? ⟨gb261, 5, none⟩ = some (.int .i64 0) := (zg BK261.out 5).trans rfl; have hfz10_0 := ze BK261.out 0; have hfz10_1 := ze BK261.out 1; have hfz10_2 := ze BK261.out 2; have hfz10_3 := ze BK261.out 3; have hfz10_4 := ze BK261.out 4; have hfz10_5 := ze BK261.out 5; obtain ⟨Ao11, co11, eo11⟩ := Kd.R_slice HO257.out; subst eo11))
     go_ret
     exact ⟨by first | rfl | (simp [zn, zo] <;> rfl) | (simp [*, zn, zo] <;> rfl), by repeat (first | (with_reducible first | exact HB.out | apply zc | apply zb | apply zd | refine zh ?_ GE261.out) | exact HB.out)⟩
    ·rw [if_neg c6] at H
     have c6b0 : (t259 == 7) = false := beq_eq_false_iff_ne.mpr c6
     have c6b1 : (t259 != 7) = true := bne_iff_ne.mpr c6
     obtain rfl := Option.some.inj H
     go_enter Try.func11, Try.ntmps11
     go_wp2_with (first | ((with_reducible refine zL (f := 7) rfl ?_); refine z8 (some 8) rfl rfl Try.func7 (by kernel_rfl) rfl #[.agg #[.int .i64 1, .int .i64 2, .string (⟨#[97]⟩ : ByteArray), .int .i64 0, .slice none 0 0, .int .i64 (-1)]] rfl (by (try simp only [Vw, List.map_cons, List.map_nil]); first | done | rfl | (simp only [List.length_drop, List.length_take]; rfl)) ?_; (refine (zX.calls k 1 2 (⟨#[97]⟩ : ByteArray) 0 _ _ ([] : List Int) (-1) t249 t250 _ ?side1 ?side2 A1.out).mono ?_); (case side1 => exact Kd.C_nil _ _); (case side2 => exact Nat.le_refl _); rintro e w12 ⟨rfl, hb⟩; refine ⟨_, rfl, ?_⟩; have n0_ := za.mk (zi (by repeat (first | (with_reducible first | exact HB.out | apply zc | apply zb | apply zd) | exact HB.out)) hb); clear HB; have HB := n0_; clear n0_; (try clear hb); (try clear hb2); (try clear hk); (try clear hi)) | ((with_reducible refine zL (f := 28) rfl ?_); refine z8 (some 13) rfl rfl Try.func28 (by kernel_rfl) rfl #[.string t249, .int .i64 0] rfl (by (try simp only [Vw, List.map_cons, List.map_nil]); first | done | rfl | (simp only [List.length_drop, List.length_take]; rfl)) ?_; (with_reducible refine (yB.calls k t249 0 t251 t252 t253 t254 t255 t258 t259 t260 _ A2.out).mono ?_); rintro e w13 ⟨v256, rfl, ho0, hb⟩; refine ⟨_, rfl, ?_⟩; have n0_ := za.mk (Kd.R_lower ho0 (zp (by repeat (first | (with_reducible first | exact HB.out | apply zc | apply zb | apply zd) | exact HB.out)))); have n1_ := za.mk (zi (by repeat (first | (with_reducible first | exact HB.out | apply zc | apply zb | apply zd) | exact HB.out)) hb); clear HB; have HO257 := n0_; have HB := n1_; clear n0_ n1_; (try clear hb); (try clear hb2); (try clear hk); (try clear hi); (try clear ho0)) | ((with_reducible refine zC (N := 3) rfl ?_); refine zF ?hg (N := 3) ?hd (cs := #[.int .i64 0, .int .i64 0, .string (⟨#[]⟩ : ByteArray), .int .i64 0, .slice none 0 0, .int .i64 0]) (t := 24) ?hr ?_; (case hd => rfl); (case hg => rfl); (case hr => first | (go_simp; done) | (go_simp; rfl)); intro gb261 hg w14 hbox hb; have n0_ := za.mk (Kd.R_below (by (with_reducible repeat (first | apply Kd.R_alloc | apply Kd.R_drewN | apply Kd.R_drew)); exact HO257.out) hb); have n1_ := za.mk (zi (by repeat (first | (with_reducible first | exact HB.out | apply zc | apply zb | apply zd) | exact HB.out)) hb); have n2_ := za.mk (hbox); have n3_ := za.mk ((by rw [hg]; exact (zp (by repeat (first | (with_reducible first | exact HB.out | apply zc | apply zb | apply zd) | exact HB.out))) : w.heap.size ≤ gb261)); have n4_ := za.mk ((by rw [hg]; exact (zp (by repeat (first | (with_reducible first | exact HB.out | apply zc | apply zb | apply zd) | exact HB.out))) : w.heap.size ≤ gb261)); clear HO257; clear HB; have HO257 := n0_; have HB := n1_; have BK261 := n2_; have GW261 := n3_; have GE261 := n4_; clear n0_ n1_ n2_ n3_ n4_; clear hb hbox hg; have hcz15_0 : w14.cell? ⟨gb261, 0, none⟩ = some (.int .i64 0) := (zg BK261.out 0).trans rfl; have hcz15_1 : w14.cell? ⟨gb261, 1, none⟩ = some (.int .i64 0) := (zg BK261.out 1).trans rfl; have hcz15_2 : w14.cell? ⟨gb261, 2, none⟩ = some (.string (⟨#[]⟩ : ByteArray)) := (zg BK261.out 2).trans rfl; have hcz15_3 : w14.cell? ⟨gb261, 3, none⟩ = some (.int .i64 0) := (zg BK261.out 3).trans rfl; have hcz15_4 : w14.cell? ⟨gb261, 4, none⟩ = some (.slice none 0 0) := (zg BK261.out 4).trans rfl; have hcz15_5 : w14.cell? ⟨gb261, 5, none⟩ = some (.int .i64 0) := (zg BK261.out 5).trans rfl; have hfz15_0 := ze BK261.out 0; have hfz15_1 := ze BK261.out 1; have hfz15_2 := ze BK261.out 2; have hfz15_3 := ze BK261.out 3; have hfz15_4 := ze BK261.out 4; have hfz15_5 := ze BK261.out 5; obtain ⟨Ao16, co16, eo16⟩ := Kd.R_slice HO257.out; subst eo16))
     go_ret
     exact ⟨by first | rfl | (simp [zn, zo] <;> rfl) | (simp [*, zn, zo] <;> rfl), by repeat (first | (with_reducible first | exact HB.out | apply zc | apply zb | apply zd | refine zh ?_ GE261.out) | exact HB.out)⟩
   ·rw [if_neg c5] at H
    have c5b0 : (t252 == 2) = false := beq_eq_false_iff_ne.mpr c5
    have c5b1 : (t252 != 2) = true := bne_iff_ne.mpr c5
    obtain rfl := Option.some.inj H
    go_enter Try.func11, Try.ntmps11
    go_wp2_with (first | ((with_reducible refine zL (f := 7) rfl ?_); refine z8 (some 8) rfl rfl Try.func7 (by kernel_rfl) rfl #[.agg #[.int .i64 1, .int .i64 2, .string (⟨#[97]⟩ : ByteArray), .int .i64 0, .slice none 0 0, .int .i64 (-1)]] rfl (by (try simp only [Vw, List.map_cons, List.map_nil]); first | done | rfl | (simp only [List.length_drop, List.length_take]; rfl)) ?_; (refine (zX.calls k 1 2 (⟨#[97]⟩ : ByteArray) 0 _ _ ([] : List Int) (-1) t249 t250 _ ?side1 ?side2 A1.out).mono ?_); (case side1 => exact Kd.C_nil _ _); (case side2 => exact Nat.le_refl _); rintro e w17 ⟨rfl, hb⟩; refine ⟨_, rfl, ?_⟩; have n0_ := za.mk (zi (by repeat (first | (with_reducible first | exact HB.out | apply zc | apply zb | apply zd) | exact HB.out)) hb); clear HB; have HB := n0_; clear n0_; (try clear hb); (try clear hb2); (try clear hk); (try clear hi)) | ((with_reducible refine zL (f := 28) rfl ?_); refine z8 (some 13) rfl rfl Try.func28 (by kernel_rfl) rfl #[.string t249, .int .i64 0] rfl (by (try simp only [Vw, List.map_cons, List.map_nil]); first | done | rfl | (simp only [List.length_drop, List.length_take]; rfl)) ?_; (with_reducible refine (yB.calls k t249 0 t251 t252 t253 t254 t255 t258 t259 t260 _ A2.out).mono ?_); rintro e w18 ⟨v256, rfl, ho0, hb⟩; refine ⟨_, rfl, ?_⟩; have n0_ := za.mk (Kd.R_lower ho0 (zp (by repeat (first | (with_reducible first | exact HB.out | apply zc | apply zb | apply zd) | exact HB.out)))); have n1_ := za.mk (zi (by repeat (first | (with_reducible first | exact HB.out | apply zc | apply zb | apply zd) | exact HB.out)) hb); clear HB; have HO257 := n0_; have HB := n1_; clear n0_ n1_; (try clear hb); (try clear hb2); (try clear hk); (try clear hi); (try clear ho0)) | ((with_reducible refine zC (N := 3) rfl ?_); refine zF ?hg (N := 3) ?hd (cs := #[.int .i64 0, .int .i64 0, .string (⟨#[]⟩ : ByteArray), .int .i64 0, .slice none 0 0, .int .i64 0]) (t := 24) ?hr ?_; (case hd => rfl); (case hg => rfl); (case hr => first | (go_simp; done) | (go_simp; rfl)); intro gb261 hg w19 hbox hb; have n0_ := za.mk (Kd.R_below (by (with_reducible repeat (first | apply Kd.R_alloc | apply Kd.R_drewN | apply Kd.R_drew)); exact HO257.out) hb); have n1_ := za.mk (zi (by repeat (first | (with_reducible first | exact HB.out | apply zc | apply zb | apply zd) | exact HB.out)) hb); have n2_ := za.mk (hbox); have n3_ := za.mk ((by rw [hg]; exact (zp (by repeat (first | (with_reducible first | exact HB.out | apply zc | apply zb | apply zd) | exact HB.out))) : w.heap.size ≤ gb261)); have n4_ := za.mk ((by rw [hg]; exact (zp (by repeat (first | (with_reducible first | exact HB.out | apply zc | apply zb | apply zd) | exact HB.out))) : w.heap.size ≤ gb261)); clear HO257; clear HB; have HO257 := n0_; have HB := n1_; have BK261 := n2_; have GW261 := n3_; have GE261 := n4_; clear n0_ n1_ n2_ n3_ n4_; clear hb hbox hg; have hcz20_0 : w19.cell? ⟨gb261, 0, none⟩ = some (.int .i64 0) := (zg BK261.out 0).trans rfl; have hcz20_1 : w19.cell? ⟨gb261, 1, none⟩ = some (.int .i64 0) := (zg BK261.out 1).trans rfl; have hcz20_2 : w19.cell? ⟨gb261, 2, none⟩ = some (.string (⟨#[]⟩ : ByteArray)) := (zg BK261.out 2).trans rfl; have hcz20_3 : w19.cell? ⟨gb261, 3, none⟩ = some (.int .i64 0) := (zg BK261.out 3).trans rfl; have hcz20_4 : w19.cell? ⟨gb261, 4, none⟩ = some (.slice none 0 0) := (zg BK261.out 4).trans rfl; have hcz20_5 : w19.cell? ⟨gb261, 5, none⟩ = some (.int .i64 0) := (zg BK261.out 5).trans rfl; have hfz20_0 := ze BK261.out 0; have hfz20_1 := ze BK261.out 1; have hfz20_2 := ze BK261.out 2; have hfz20_3 := ze BK261.out 3; have hfz20_4 := ze BK261.out 4; have hfz20_5 := ze BK261.out 5; obtain ⟨Ao21, co21, eo21⟩ := Kd.R_slice HO257.out; subst eo21))
    go_ret
    exact ⟨by first | rfl | (simp [zn, zo] <;> rfl) | (simp [*, zn, zo] <;> rfl), by repeat (first | (with_reducible first | exact HB.out | apply zc | apply zb | apply zd | refine zh ?_ GE261.out) | exact HB.out)⟩
  ·rw [if_neg c4] at H
   have c4b0 : (t250 == 0) = false := beq_eq_false_iff_ne.mpr c4
   have c4b1 : (t250 != 0) = true := bne_iff_ne.mpr c4
   obtain rfl := Option.some.inj H
   go_enter Try.func11, Try.ntmps11
   go_wp2_with (first | ((with_reducible refine zL (f := 7) rfl ?_); refine z8 (some 8) rfl rfl Try.func7 (by kernel_rfl) rfl #[.agg #[.int .i64 1, .int .i64 2, .string (⟨#[97]⟩ : ByteArray), .int .i64 0, .slice none 0 0, .int .i64 (-1)]] rfl (by (try simp only [Vw, List.map_cons, List.map_nil]); first | done | rfl | (simp only [List.length_drop, List.length_take]; rfl)) ?_; (refine (zX.calls k 1 2 (⟨#[97]⟩ : ByteArray) 0 _ _ ([] : List Int) (-1) t249 t250 _ ?side1 ?side2 A1.out).mono ?_); (case side1 => exact Kd.C_nil _ _); (case side2 => exact Nat.le_refl _); rintro e w22 ⟨rfl, hb⟩; refine ⟨_, rfl, ?_⟩; have n0_ := za.mk (zi (by repeat (first | (with_reducible first | exact HB.out | apply zc | apply zb | apply zd) | exact HB.out)) hb); clear HB; have HB := n0_; clear n0_; (try clear hb); (try clear hb2); (try clear hk); (try clear hi)) | ((with_reducible refine zL (f := 28) rfl ?_); refine z8 (some 13) rfl rfl Try.func28 (by kernel_rfl) rfl #[.string t249, .int .i64 0] rfl (by (try simp only [Vw, List.map_cons, List.map_nil]); first | done | rfl | (simp only [List.length_drop, List.length_take]; rfl)) ?_; (with_reducible refine (yB.calls k t249 0 t251 t252 t253 t254 t255 t258 t259 t260 _ A2.out).mono ?_); rintro e w23 ⟨v256, rfl, ho0, hb⟩; refine ⟨_, rfl, ?_⟩; have n0_ := za.mk (Kd.R_lower ho0 (zp (by repeat (first | (with_reducible first | exact HB.out | apply zc | apply zb | apply zd) | exact HB.out)))); have n1_ := za.mk (zi (by repeat (first | (with_reducible first | exact HB.out | apply zc | apply zb | apply zd) | exact HB.out)) hb); clear HB; have HO257 := n0_; have HB := n1_; clear n0_ n1_; (try clear hb); (try clear hb2); (try clear hk); (try clear hi); (try clear ho0)) | ((with_reducible refine zC (N := 3) rfl ?_); refine zF ?hg (N := 3) ?hd (cs := #[.int .i64 0, .int .i64 0, .string (⟨#[]⟩ : ByteArray), .int .i64 0, .slice none 0 0, .int .i64 0]) (t := 24) ?hr ?_; (case hd => rfl); (case hg => rfl); (case hr => first | (go_simp; done) | (go_simp; rfl)); intro gb261 hg w24 hbox hb; have n0_ := za.mk (Kd.R_below (by (with_reducible repeat (first | apply Kd.R_alloc | apply Kd.R_drewN | apply Kd.R_drew)); exact HO257.out) hb); have n1_ := za.mk (zi (by repeat (first | (with_reducible first | exact HB.out | apply zc | apply zb | apply zd) | exact HB.out)) hb); have n2_ := za.mk (hbox); have n3_ := za.mk ((by rw [hg]; exact (zp (by repeat (first | (with_reducible first | exact HB.out | apply zc | apply zb | apply zd) | exact HB.out))) : w.heap.size ≤ gb261)); have n4_ := za.mk ((by rw [hg]; exact (zp (by repeat (first | (with_reducible first | exact HB.out | apply zc | apply zb | apply zd) | exact HB.out))) : w.heap.size ≤ gb261)); clear HO257; clear HB; have HO257 := n0_; have HB := n1_; have BK261 := n2_; have GW261 := n3_; have GE261 := n4_; clear n0_ n1_ n2_ n3_ n4_; clear hb hbox hg; have hcz25_0 : w24.cell? ⟨gb261, 0, none⟩ = some (.int .i64 0) := (zg BK261.out 0).trans rfl; have hcz25_1 : w24.cell? ⟨gb261, 1, none⟩ = some (.int .i64 0) := (zg BK261.out 1).trans rfl; have hcz25_2 : w24.cell? ⟨gb261, 2, none⟩ = some (.string (⟨#[]⟩ : ByteArray)) := (zg BK261.out 2).trans rfl; have hcz25_3 : w24.cell? ⟨gb261, 3, none⟩ = some (.int .i64 0) := (zg BK261.out 3).trans rfl; have hcz25_4 : w24.cell? ⟨gb261, 4, none⟩ = some (.slice none 0 0) := (zg BK261.out 4).trans rfl; have hcz25_5 : w24.cell? ⟨gb261, 5, none⟩ = some (.int .i64 0) := (zg BK261.out 5).trans rfl; have hfz25_0 := ze BK261.out 0; have hfz25_1 := ze BK261.out 1; have hfz25_2 := ze BK261.out 2; have hfz25_3 := ze BK261.out 3; have hfz25_4 := ze BK261.out 4; have hfz25_5 := ze BK261.out 5; obtain ⟨Ao26, co26, eo26⟩ := Kd.R_slice HO257.out; subst eo26))
   go_ret
   exact ⟨by first | rfl | (simp [zn, zo] <;> rfl) | (simp [*, zn, zo] <;> rfl), by repeat (first | (with_reducible first | exact HB.out | apply zc | apply zb | apply zd | refine zh ?_ GE261.out) | exact HB.out)⟩
 ·rw [if_neg c3] at H
  have c3b0 : (t249.toList == ([2, 4, 2, 97, 0, 0, 1] : List UInt8)) = false := beq_eq_false_iff_ne.mpr c3
  have c3b1 : (t249.toList != ([2, 4, 2, 97, 0, 0, 1] : List UInt8)) = true := bne_iff_ne.mpr c3
  obtain rfl := Option.some.inj H
  go_enter Try.func11, Try.ntmps11
  go_wp2_with (first | ((with_reducible refine zL (f := 7) rfl ?_); refine z8 (some 8) rfl rfl Try.func7 (by kernel_rfl) rfl #[.agg #[.int .i64 1, .int .i64 2, .string (⟨#[97]⟩ : ByteArray), .int .i64 0, .slice none 0 0, .int .i64 (-1)]] rfl (by (try simp only [Vw, List.map_cons, List.map_nil]); first | done | rfl | (simp only [List.length_drop, List.length_take]; rfl)) ?_; (refine (zX.calls k 1 2 (⟨#[97]⟩ : ByteArray) 0 _ _ ([] : List Int) (-1) t249 t250 _ ?side1 ?side2 A1.out).mono ?_); (case side1 => exact Kd.C_nil _ _); (case side2 => exact Nat.le_refl _); rintro e w27 ⟨rfl, hb⟩; refine ⟨_, rfl, ?_⟩; have n0_ := za.mk (zi (by repeat (first | (with_reducible first | exact HB.out | apply zc | apply zb | apply zd) | exact HB.out)) hb); clear HB; have HB := n0_; clear n0_; (try clear hb); (try clear hb2); (try clear hk); (try clear hi)) | ((with_reducible refine zL (f := 28) rfl ?_); refine z8 (some 13) rfl rfl Try.func28 (by kernel_rfl) rfl #[.string t249, .int .i64 0] rfl (by (try simp only [Vw, List.map_cons, List.map_nil]); first | done | rfl | (simp only [List.length_drop, List.length_take]; rfl)) ?_; (with_reducible refine (yB.calls k t249 0 t251 t252 t253 t254 t255 t258 t259 t260 _ A2.out).mono ?_); rintro e w28 ⟨v256, rfl, ho0, hb⟩; refine ⟨_, rfl, ?_⟩; have n0_ := za.mk (Kd.R_lower ho0 (zp (by repeat (first | (with_reducible first | exact HB.out | apply zc | apply zb | apply zd) | exact HB.out)))); have n1_ := za.mk (zi (by repeat (first | (with_reducible first | exact HB.out | apply zc | apply zb | apply zd) | exact HB.out)) hb); clear HB; have HO257 := n0_; have HB := n1_; clear n0_ n1_; (try clear hb); (try clear hb2); (try clear hk); (try clear hi); (try clear ho0)) | ((with_reducible refine zC (N := 3) rfl ?_); refine zF ?hg (N := 3) ?hd (cs := #[.int .i64 0, .int .i64 0, .string (⟨#[]⟩ : ByteArray), .int .i64 0, .slice none 0 0, .int .i64 0]) (t := 24) ?hr ?_; (case hd => rfl); (case hg => rfl); (case hr => first | (go_simp; done) | (go_simp; rfl)); intro gb261 hg w29 hbox hb; have n0_ := za.mk (Kd.R_below (by (with_reducible repeat (first | apply Kd.R_alloc | apply Kd.R_drewN | apply Kd.R_drew)); exact HO257.out) hb); have n1_ := za.mk (zi (by repeat (first | (with_reducible first | exact HB.out | apply zc | apply zb | apply zd) | exact HB.out)) hb); have n2_ := za.mk (hbox); have n3_ := za.mk ((by rw [hg]; exact (zp (by repeat (first | (with_reducible first | exact HB.out | apply zc | apply zb | apply zd) | exact HB.out))) : w.heap.size ≤ gb261)); have n4_ := za.mk ((by rw [hg]; exact (zp (by repeat (first | (with_reducible first | exact HB.out | apply zc | apply zb | apply zd) | exact HB.out))) : w.heap.size ≤ gb261)); clear HO257; clear HB; have HO257 := n0_; have HB := n1_; have BK261 := n2_; have GW261 := n3_; have GE261 := n4_; clear n0_ n1_ n2_ n3_ n4_; clear hb hbox hg; have hcz30_0 : w29.cell? ⟨gb261, 0, none⟩ = some (.int .i64 0) := (zg BK261.out 0).trans rfl; have hcz30_1 : w29.cell? ⟨gb261, 1, none⟩ = some (.int .i64 0) := (zg BK261.out 1).trans rfl; have hcz30_2 : w29.cell? ⟨gb261, 2, none⟩ = some (.string (⟨#[]⟩ : ByteArray)) := (zg BK261.out 2).trans rfl; have hcz30_3 : w29.cell? ⟨gb261, 3, none⟩ = some (.int .i64 0) := (zg BK261.out 3).trans rfl; have hcz30_4 : w29.cell? ⟨gb261, 4, none⟩ = some (.slice none 0 0) := (zg BK261.out 4).trans rfl; have hcz30_5 : w29.cell? ⟨gb261, 5, none⟩ = some (.int .i64 0) := (zg BK261.out 5).trans rfl; have hfz30_0 := ze BK261.out 0; have hfz30_1 := ze BK261.out 1; have hfz30_2 := ze BK261.out 2; have hfz30_3 := ze BK261.out 3; have hfz30_4 := ze BK261.out 4; have hfz30_5 := ze BK261.out 5; obtain ⟨Ao31, co31, eo31⟩ := Kd.R_slice HO257.out; subst eo31))
  go_ret
  exact ⟨by first | rfl | (simp [zn, zo] <;> rfl) | (simp [*, zn, zo] <;> rfl), by repeat (first | (with_reducible first | exact HB.out | apply zc | apply zb | apply zd | refine zh ?_ GE261.out) | exact HB.out)⟩
theorem xg {w : World} {g t : Nat} {b0 b1 b2 b3 b4 b5 b6 b7 b8 b9 b10 b11 b12 b13 b14 b15 : Value} (h : w.heap[g]? = some (.cells #[b0, b1, b2, b3, b4, b5, b6, b7, b8, b9, b10, b11, b12, b13, b14, b15] t (0, 0))) : w.cell? ⟨g, 0, none⟩ = some b0 ∧ w.cell? ⟨g, 1, none⟩ = some b1 ∧ w.cell? ⟨g, 2, none⟩ = some b2 ∧ w.cell? ⟨g, 3, none⟩ = some b3 ∧ w.cell? ⟨g, 4, none⟩ = some b4 ∧ w.cell? ⟨g, 5, none⟩ = some b5 ∧ w.cell? ⟨g, 6, none⟩ = some b6 ∧ w.cell? ⟨g, 7, none⟩ = some b7 ∧ w.cell? ⟨g, 8, none⟩ = some b8 ∧ w.cell? ⟨g, 9, none⟩ = some b9 ∧ w.cell? ⟨g, 10, none⟩ = some b10 ∧ w.cell? ⟨g, 11, none⟩ = some b11 ∧ w.cell? ⟨g, 12, none⟩ = some b12 ∧ w.cell? ⟨g, 13, none⟩ = some b13 ∧ w.cell? ⟨g, 14, none⟩ = some b14 ∧ w.cell? ⟨g, 15, none⟩ = some b15 ∧ w.frozen? ⟨g, 0, none⟩ = false ∧ w.frozen? ⟨g, 1, none⟩ = false ∧ w.frozen? ⟨g, 2, none⟩ = false ∧ w.frozen? ⟨g, 3, none⟩ = false ∧ w.frozen? ⟨g, 4, none⟩ = false ∧ w.frozen? ⟨g, 5, none⟩ = false ∧ w.frozen? ⟨g, 6, none⟩ = false ∧ w.frozen? ⟨g, 7, none⟩ = false ∧ w.frozen? ⟨g, 8, none⟩ = false ∧ w.frozen? ⟨g, 9, none⟩ = false ∧ w.frozen? ⟨g, 10, none⟩ = false ∧ w.frozen? ⟨g, 11, none⟩ = false ∧ w.frozen? ⟨g, 12, none⟩ = false ∧ w.frozen? ⟨g, 13, none⟩ = false ∧ w.frozen? ⟨g, 14, none⟩ = false ∧ w.frozen? ⟨g, 15, none⟩ = false := ⟨(zg h 0).trans rfl, (zg h 1).trans rfl, (zg h 2).trans rfl, (zg h 3).trans rfl, (zg h 4).trans rfl, (zg h 5).trans rfl, (zg h 6).trans rfl, (zg h 7).trans rfl, (zg h 8).trans rfl, (zg h 9).trans rfl, (zg h 10).trans rfl, (zg h 11).trans rfl, (zg h 12).trans rfl, (zg h 13).trans rfl, (zg h 14).trans rfl, (zg h 15).trans rfl, ze h 0, ze h 1, ze h 2, ze h 3, ze h 4, ze h 5, ze h 6, ze h 7, ze h 8, ze h 9, ze h 10, ze h 11, ze h 12, ze h 13, ze h 14, ze h 15⟩
def QJ (k : Nat) (a0 a1 : ByteArray) (a2 : Int) (a3 : Int) (a4 : ByteArray) (a5 : Int) (l6 : List Int) (a7 : Int) : Prop := ∃ y e, zX.f k a2 a3 a4 a5 l6 a7 = some (y, e) ∧ (e = 0 → a0.size + y.size ≤ 9223372036854775807 ∧ (a0 ++ y).size + a1.size ≤ 9223372036854775807 ∧ ∃ nx : Int, yB.f k ((a0 ++ y) ++ a1) (a0.size : Int) = some (a2, a3, a4, a5, l6, a7, nx, 0) ∧ xt.f k a2 a3 a4 a5 l6 a7 a2 a3 a4 a5 l6 a7 = some true ∧ wrap64 (nx - (a0.size : Int)) = (y.size : Int))
def QQ (k : Nat) (a0 a1 : ByteArray) (a8 : Int) (a9 : Int) (a10 : ByteArray) (a11 : Int) (l12 : List S81) : Prop := ∃ y e, yn.f k a8 a9 a10 a11 l12 = some (y, e) ∧ (e = 0 → a0.size + y.size ≤ 9223372036854775807 ∧ (a0 ++ y).size + a1.size ≤ 9223372036854775807 ∧ ∃ nx : Int, xm.f k ((a0 ++ y) ++ a1) (a0.size : Int) = some (a8, a9, a10, a11, l12, nx, 0) ∧ xd.f k a8 a9 a10 a11 l12 a8 a9 a10 a11 l12 = some true ∧ wrap64 (nx - (a0.size : Int)) = (y.size : Int))
def Qu (k : Nat) (a0 a1 : ByteArray) (l13 : List S93) : Prop := ∃ y e, xX.f k l13 = some (y, e) ∧ (e = 0 → a0.size + y.size ≤ 9223372036854775807 ∧ (a0 ++ y).size + a1.size ≤ 9223372036854775807 ∧ ∃ nx : Int, xz.f k ((a0 ++ y) ++ a1) (a0.size : Int) = some (l13, nx, 0) ∧ zS.f k l13 l13 = some true ∧ wrap64 (nx - (a0.size : Int)) = (y.size : Int))
def Q7 (k : Nat) (a0 a1 : ByteArray) (l14 : List S97) : Prop := ∃ y e, xO.f k l14 = some (y, e) ∧ (e = 0 → a0.size + y.size ≤ 9223372036854775807 ∧ (a0 ++ y).size + a1.size ≤ 9223372036854775807 ∧ ∃ nx : Int, xc.f k ((a0 ++ y) ++ a1) (a0.size : Int) = some (l14, nx, 0) ∧ yb.f k l14 l14 = some true ∧ wrap64 (nx - (a0.size : Int)) = (y.size : Int))
def QU (k : Nat) (a0 a1 : ByteArray) (l15 : List ByteArray) : Prop := ∃ y e, xN.f k l15 = some (y, e) ∧ (e = 0 → a0.size + y.size ≤ 9223372036854775807 ∧ (a0 ++ y).size + a1.size ≤ 9223372036854775807 ∧ ∃ nx : Int, xl.f k ((a0 ++ y) ++ a1) (a0.size : Int) = some (l15, nx, 0) ∧ yD.f k l15 l15 = some true ∧ wrap64 (nx - (a0.size : Int)) = (y.size : Int))
def xS.Good (k : Nat) (a0 : ByteArray) (a1 : ByteArray) (a2 : Int) (a3 : Int) (a4 : ByteArray) (a5 : Int) (l6 : List Int) (a7 : Int) (a8 : Int) (a9 : Int) (a10 : ByteArray) (a11 : Int) (l12 : List S81) (l13 : List S93) (l14 : List S97) (l15 : List ByteArray) : Prop := yK.f k = some true ∧ (a0.size ≤ 5000 → a1.size ≤ 5000 → QJ k a0 a1 a2 a3 a4 a5 l6 a7 ∧ QQ k a0 a1 a8 a9 a10 a11 l12 ∧ Qu k a0 a1 l13 ∧ Q7 k a0 a1 l14 ∧ QU k a0 a1 l15)
theorem xS.calls (k : Nat) (a0 : ByteArray) (a1 : ByteArray) (a2 : Int) (a3 : Int) (a4 : ByteArray) (a5 : Int) (A6 : Option Addr) (c6 : Nat) (l6 : List Int) (a7 : Int) (a8 : Int) (a9 : Int) (a10 : ByteArray) (a11 : Int) (A12 : Option Addr) (c12 : Nat) (l12 : List S81) (A13 : Option Addr) (c13 : Nat) (l13 : List S93) (A14 : Option Addr) (c14 : Nat) (l14 : List S97) (A15 : Option Addr) (c15 : Nat) (l15 : List ByteArray) (r : Bool) (w : World) (hr6 : Kd.C (Kd.int .i64) w A6 l6.length l6) (hc6 : l6.length ≤ c6) (hr12 : Kd.C k81 w A12 l12.length l12) (hc12 : l12.length ≤ c12) (hr13 : Kd.C k93 w A13 l13.length l13) (hc13 : l13.length ≤ c13) (hr14 : Kd.C k97 w A14 l14.length l14) (hc14 : l14.length ≤ c14) (hr15 : Kd.C Kd.string w A15 l15.length l15) (hc15 : l15.length ≤ c15) (h : xS.Good k a0 a1 a2 a3 a4 a5 l6 a7 a8 a9 a10 a11 l12 l13 l14 l15) :
  Calls Try.prog 6 #[.agg #[.string a0, .string a1, .int .i64 a2, .int .i64 a3, .string a4, .int .i64 a5, .slice A6 l6.length c6, .int .i64 a7, .int .i64 a8, .int .i64 a9, .string a10, .int .i64 a11, .slice A12 l12.length c12, .slice A13 l13.length c13, .slice A14 l14.length c14, .slice A15 l15.length c15]] w fun e w' => e = .returned (.bool true) ∧ Below w.heap.size w w' := by
 have HB := za.mk (Below.refl w.heap.size w)
 have HR_l6 := za.mk hr6
 have HL_l6 := za.mk hc6
 have HR_l12 := za.mk hr12
 have HL_l12 := za.mk hc12
 have HR_l13 := za.mk hr13
 have HL_l13 := za.mk hc13
 have HR_l14 := za.mk hr14
 have HL_l14 := za.mk hc14
 have HR_l15 := za.mk hr15
 have HL_l15 := za.mk hc15
 clear hr6 hc6 hr12 hc12 hr13 hc13 hr14 hc14 hr15 hc15
 obtain ⟨haw, hsec⟩ := h
 have HAW := za.mk haw
 clear haw
 by_cases c4 : (a0.size : Int) > 5000
 ·clear hsec
  have c4b0 : decide (5000 < (a0.size : Int)) = true := decide_eq_true (by omega)
  have c4b1 : decide (5000 < a0.size) = true := decide_eq_true (by omega)
  clear c4
  go_enter Try.func6, Try.ntmps6
  go_wp2_with (first | ((with_reducible refine zC (N := 1) rfl ?_); refine zF ?hg (N := 1) ?hd (cs := #[.string a0, .string a1, .int .i64 a2, .int .i64 a3, .string a4, .int .i64 a5, .slice A6 l6.length c6, .int .i64 a7, .int .i64 a8, .int .i64 a9, .string a10, .int .i64 a11, .slice A12 l12.length c12, .slice A13 l13.length c13, .slice A14 l14.length c14, .slice A15 l15.length c15]) (t := 65) ?hr ?_; (case hd => rfl); (case hg => rfl); (case hr => first | (go_simp; done) | (go_simp; rfl)); intro g_p hg_ w1_ hbox_ hb_; have n0_ := za.mk (zi HB.out hb_); have n1_ := za.mk ((by rw [hg_]; exact HB.out.size : w.heap.size ≤ g_p)); have n2_ := za.mk (hbox_); (try clear HB); (try clear GE_p); (try clear BK_p); have HB := n0_; have GE_p := n1_; have BK_p := n2_; clear n0_ n1_ n2_; clear hbox_ hb_ hg_; obtain ⟨hc_p_0, hc_p_1, hc_p_2, hc_p_3, hc_p_4, hc_p_5, hc_p_6, hc_p_7, hc_p_8, hc_p_9, hc_p_10, hc_p_11, hc_p_12, hc_p_13, hc_p_14, hc_p_15, hf_p_0, hf_p_1, hf_p_2, hf_p_3, hf_p_4, hf_p_5, hf_p_6, hf_p_7, hf_p_8, hf_p_9, hf_p_10, hf_p_11, hf_p_12, hf_p_13, hf_p_14, hf_p_15⟩ := xg BK_p.out) | (go_at_call 11; (with_reducible refine (yK.calls k true _ HAW.out).mono ?_); rintro e_ w2_ ⟨rfl, hb_⟩; have n0_ := za.mk (zH BK_p.out hb_); have n1_ := za.mk (zi HB.out hb_); (try clear BK_p); (try clear HB); have BK_p := n0_; have HB := n1_; clear n0_ n1_; (try clear hc_p_0 hc_p_1 hc_p_2 hc_p_3 hc_p_4 hc_p_5 hc_p_6 hc_p_7 hc_p_8 hc_p_9 hc_p_10 hc_p_11 hc_p_12 hc_p_13 hc_p_14 hc_p_15 hf_p_0 hf_p_1 hf_p_2 hf_p_3 hf_p_4 hf_p_5 hf_p_6 hf_p_7 hf_p_8 hf_p_9 hf_p_10 hf_p_11 hf_p_12 hf_p_13 hf_p_14 hf_p_15); (try clear hb_); obtain ⟨hc_p_0, hc_p_1, hc_p_2, hc_p_3, hc_p_4, hc_p_5, hc_p_6, hc_p_7, hc_p_8, hc_p_9, hc_p_10, hc_p_11, hc_p_12, hc_p_13, hc_p_14, hc_p_15, hf_p_0, hf_p_1, hf_p_2, hf_p_3, hf_p_4, hf_p_5, hf_p_6, hf_p_7, hf_p_8, hf_p_9, hf_p_10, hf_p_11, hf_p_12, hf_p_13, hf_p_14, hf_p_15⟩ := xg BK_p.out))
  go_ret
  exact ⟨rfl, HB.out⟩
 ·by_cases c6 : (a1.size : Int) > 5000
  ·clear hsec
   have c4b0 : decide (5000 < (a0.size : Int)) = false := decide_eq_false (by omega)
   have c4b1 : decide (5000 < a0.size) = false := decide_eq_false (by omega)
   have c6b0 : decide (5000 < (a1.size : Int)) = true := decide_eq_true (by omega)
   have c6b1 : decide (5000 < a1.size) = true := decide_eq_true (by omega)
   clear c4 c6
   go_enter Try.func6, Try.ntmps6
   go_wp2_with (first | ((with_reducible refine zC (N := 1) rfl ?_); refine zF ?hg (N := 1) ?hd (cs := #[.string a0, .string a1, .int .i64 a2, .int .i64 a3, .string a4, .int .i64 a5, .slice A6 l6.length c6, .int .i64 a7, .int .i64 a8, .int .i64 a9, .string a10, .int .i64 a11, .slice A12 l12.length c12, .slice A13 l13.length c13, .slice A14 l14.length c14, .slice A15 l15.length c15]) (t := 65) ?hr ?_; (case hd => rfl); (case hg => rfl); (case hr => first | (go_simp; done) | (go_simp; rfl)); intro g_p hg_ w1_ hbox_ hb_; have n0_ := za.mk (zi HB.out hb_); have n1_ := za.mk ((by rw [hg_]; exact HB.out.size : w.heap.size ≤ g_p)); have n2_ := za.mk (hbox_); (try clear HB); (try clear GE_p); (try clear BK_p); have HB := n0_; have GE_p := n1_; have BK_p := n2_; clear n0_ n1_ n2_; clear hbox_ hb_ hg_; obtain ⟨hc_p_0, hc_p_1, hc_p_2, hc_p_3, hc_p_4, hc_p_5, hc_p_6, hc_p_7, hc_p_8, hc_p_9, hc_p_10, hc_p_11, hc_p_12, hc_p_13, hc_p_14, hc_p_15, hf_p_0, hf_p_1, hf_p_2, hf_p_3, hf_p_4, hf_p_5, hf_p_6, hf_p_7, hf_p_8, hf_p_9, hf_p_10, hf_p_11, hf_p_12, hf_p_13, hf_p_14, hf_p_15⟩ := xg BK_p.out) | (go_at_call 11; (with_reducible refine (yK.calls k true _ HAW.out).mono ?_); rintro e_ w2_ ⟨rfl, hb_⟩; have n0_ := za.mk (zH BK_p.out hb_); have n1_ := za.mk (zi HB.out hb_); (try clear BK_p); (try clear HB); have BK_p := n0_; have HB := n1_; clear n0_ n1_; (try clear hc_p_0 hc_p_1 hc_p_2 hc_p_3 hc_p_4 hc_p_5 hc_p_6 hc_p_7 hc_p_8 hc_p_9 hc_p_10 hc_p_11 hc_p_12 hc_p_13 hc_p_14 hc_p_15 hf_p_0 hf_p_1 hf_p_2 hf_p_3 hf_p_4 hf_p_5 hf_p_6 hf_p_7 hf_p_8 hf_p_9 hf_p_10 hf_p_11 hf_p_12 hf_p_13 hf_p_14 hf_p_15); (try clear hb_); obtain ⟨hc_p_0, hc_p_1, hc_p_2, hc_p_3, hc_p_4, hc_p_5, hc_p_6, hc_p_7, hc_p_8, hc_p_9, hc_p_10, hc_p_11, hc_p_12, hc_p_13, hc_p_14, hc_p_15, hf_p_0, hf_p_1, hf_p_2, hf_p_3, hf_p_4, hf_p_5, hf_p_6, hf_p_7, hf_p_8, hf_p_9, hf_p_10, hf_p_11, hf_p_12, hf_p_13, hf_p_14, hf_p_15⟩ := xg BK_p.out))
   go_ret
   exact ⟨rfl, HB.out⟩
  ·obtain ⟨hs_c, hs_r, hs_i, hs_v, hs_p⟩ := hsec (by omega) (by omega)
   clear hsec
   have c4b0 : decide (5000 < (a0.size : Int)) = false := decide_eq_false (by omega)
   have c4b1 : decide (5000 < a0.size) = false := decide_eq_false (by omega)
   have c6b0 : decide (5000 < (a1.size : Int)) = false := decide_eq_false (by omega)
   have c6b1 : decide (5000 < a1.size) = false := decide_eq_false (by omega)
   clear c4 c6
   have HS_c := za.mk hs_c
   have HS_r := za.mk hs_r
   have HS_i := za.mk hs_i
   have HS_v := za.mk hs_v
   have HS_p := za.mk hs_p
   clear hs_c hs_r hs_i hs_v hs_p
   go_enter Try.func6, Try.ntmps6
   obtain ⟨y, e, hput, hgo⟩ := HS_c.out
   clear HS_c
   have HP := za.mk hput
   have HGO := za.mk hgo
   clear hput hgo
   go_upto_if 54 with (first | ((with_reducible refine zC (N := 1) rfl ?_); refine zF ?hg (N := 1) ?hd (cs := #[.string a0, .string a1, .int .i64 a2, .int .i64 a3, .string a4, .int .i64 a5, .slice A6 l6.length c6, .int .i64 a7, .int .i64 a8, .int .i64 a9, .string a10, .int .i64 a11, .slice A12 l12.length c12, .slice A13 l13.length c13, .slice A14 l14.length c14, .slice A15 l15.length c15]) (t := 65) ?hr ?_; (case hd => rfl); (case hg => rfl); (case hr => first | (go_simp; done) | (go_simp; rfl)); intro g_p hg_ w1_ hbox_ hb_; have n0_ := za.mk (zi HB.out hb_); have n1_ := za.mk ((by rw [hg_]; exact HB.out.size : w.heap.size ≤ g_p)); have n2_ := za.mk (hbox_); (try clear HB); (try clear GE_p); (try clear BK_p); have HB := n0_; have GE_p := n1_; have BK_p := n2_; clear n0_ n1_ n2_; clear hbox_ hb_ hg_; obtain ⟨hc_p_0, hc_p_1, hc_p_2, hc_p_3, hc_p_4, hc_p_5, hc_p_6, hc_p_7, hc_p_8, hc_p_9, hc_p_10, hc_p_11, hc_p_12, hc_p_13, hc_p_14, hc_p_15, hf_p_0, hf_p_1, hf_p_2, hf_p_3, hf_p_4, hf_p_5, hf_p_6, hf_p_7, hf_p_8, hf_p_9, hf_p_10, hf_p_11, hf_p_12, hf_p_13, hf_p_14, hf_p_15⟩ := xg BK_p.out) | (go_at_call 11; (with_reducible refine (yK.calls k true _ HAW.out).mono ?_); rintro e_ w2_ ⟨rfl, hb_⟩; have n0_ := za.mk (zH BK_p.out hb_); have n1_ := za.mk (zi HB.out hb_); (try clear BK_p); (try clear HB); have BK_p := n0_; have HB := n1_; clear n0_ n1_; (try clear hc_p_0 hc_p_1 hc_p_2 hc_p_3 hc_p_4 hc_p_5 hc_p_6 hc_p_7 hc_p_8 hc_p_9 hc_p_10 hc_p_11 hc_p_12 hc_p_13 hc_p_14 hc_p_15 hf_p_0 hf_p_1 hf_p_2 hf_p_3 hf_p_4 hf_p_5 hf_p_6 hf_p_7 hf_p_8 hf_p_9 hf_p_10 hf_p_11 hf_p_12 hf_p_13 hf_p_14 hf_p_15); (try clear hb_); obtain ⟨hc_p_0, hc_p_1, hc_p_2, hc_p_3, hc_p_4, hc_p_5, hc_p_6, hc_p_7, hc_p_8, hc_p_9, hc_p_10, hc_p_11, hc_p_12, hc_p_13, hc_p_14, hc_p_15, hf_p_0, hf_p_1, hf_p_2, hf_p_3, hf_p_4, hf_p_5, hf_p_6, hf_p_7, hf_p_8, hf_p_9, hf_p_10, hf_p_11, hf_p_12, hf_p_13, hf_p_14, hf_p_15⟩ := xg BK_p.out) | (go_at_call 7; (with_reducible refine (zX.calls k a2 a3 a4 a5 _ _ l6 a7 y e _ ?side1 HL_l6.out HP.out).mono ?_); (case side1 => exact Kd.C_below HR_l6.out HB.out); rintro e_ w3_ ⟨rfl, hb_⟩; have n0_ := za.mk (zH BK_p.out hb_); have n1_ := za.mk (zi HB.out hb_); (try clear BK_p); (try clear HB); have BK_p := n0_; have HB := n1_; clear n0_ n1_; (try clear hc_p_0 hc_p_1 hc_p_2 hc_p_3 hc_p_4 hc_p_5 hc_p_6 hc_p_7 hc_p_8 hc_p_9 hc_p_10 hc_p_11 hc_p_12 hc_p_13 hc_p_14 hc_p_15 hf_p_0 hf_p_1 hf_p_2 hf_p_3 hf_p_4 hf_p_5 hf_p_6 hf_p_7 hf_p_8 hf_p_9 hf_p_10 hf_p_11 hf_p_12 hf_p_13 hf_p_14 hf_p_15); (try clear hb_); obtain ⟨hc_p_0, hc_p_1, hc_p_2, hc_p_3, hc_p_4, hc_p_5, hc_p_6, hc_p_7, hc_p_8, hc_p_9, hc_p_10, hc_p_11, hc_p_12, hc_p_13, hc_p_14, hc_p_15, hf_p_0, hf_p_1, hf_p_2, hf_p_3, hf_p_4, hf_p_5, hf_p_6, hf_p_7, hf_p_8, hf_p_9, hf_p_10, hf_p_11, hf_p_12, hf_p_13, hf_p_14, hf_p_15⟩ := xg BK_p.out))
   (try simp only [Act.put, Vt, Vu, Vv])
   go_cut [] (fun wc => za (wc.heap[g_p]? = some (.cells #[.string a0, .string a1, .int .i64 a2, .int .i64 a3, .string a4, .int .i64 a5, .slice A6 l6.length c6, .int .i64 a7, .int .i64 a8, .int .i64 a9, .string a10, .int .i64 a11, .slice A12 l12.length c12, .slice A13 l13.length c13, .slice A14 l14.length c14, .slice A15 l15.length c15] 65 (0, 0))) ∧ za (Below w.heap.size w wc))
   case first =>
    as_aux_lemma =>
     by_cases c18 : e = 0
     ·obtain ⟨c19, c20, nx, hrd, hsm, c25⟩ := HGO.out c18
      clear HGO
      subst c18
      have c19b0 := eq_true c19
      have c19b1 := decide_eq_true c19
      have c19b2 : (9223372036854775807 < a0.size + y.size) = False := eq_false (Nat.not_lt.2 c19)
      have c20b0 := eq_true c20
      have c20b1 := decide_eq_true c20
      have c20b2 : (9223372036854775807 < (a0 ++ y).size + a1.size) = False := eq_false (Nat.not_lt.2 c20)
      have c20b3 := c20b2
      simp only [Vz] at c20b3
      have c25b0 : ((wrap64 (nx - (a0.size : Int))) == (y.size : Int)) = true := beq_iff_eq.mpr c25
      have c25b1 : ((wrap64 (nx - (a0.size : Int))) != (y.size : Int)) = false := bne_eq_false_iff_eq.mpr c25
      clear c25
      have HRD := za.mk hrd
      have HSM := za.mk hsm
      clear hrd hsm
      go_wp2_with (first | (go_at_call 28; (with_reducible refine (yB.calls k ((a0 ++ y) ++ a1) (a0.size : Int) a2 a3 a4 a5 l6 a7 nx 0 _ HRD.out).mono ?_); rintro e_ w4_ ⟨v_, rfl, hr_, hb_⟩; obtain ⟨A_l, c_l, ev_⟩ := Kd.R_slice hr_; subst ev_; have n0_ := za.mk (zH BK_p.out hb_); have n1_ := za.mk (zi HB.out hb_); have n2_ := za.mk (Kd.R_lower hr_ HB.out.size); (try clear BK_p); (try clear HB); (try clear HR_l); have BK_p := n0_; have HB := n1_; have HR_l := n2_; clear n0_ n1_ n2_; (try clear hc_p_0 hc_p_1 hc_p_2 hc_p_3 hc_p_4 hc_p_5 hc_p_6 hc_p_7 hc_p_8 hc_p_9 hc_p_10 hc_p_11 hc_p_12 hc_p_13 hc_p_14 hc_p_15 hf_p_0 hf_p_1 hf_p_2 hf_p_3 hf_p_4 hf_p_5 hf_p_6 hf_p_7 hf_p_8 hf_p_9 hf_p_10 hf_p_11 hf_p_12 hf_p_13 hf_p_14 hf_p_15); (try clear hb_); (try clear hr_); obtain ⟨hc_p_0, hc_p_1, hc_p_2, hc_p_3, hc_p_4, hc_p_5, hc_p_6, hc_p_7, hc_p_8, hc_p_9, hc_p_10, hc_p_11, hc_p_12, hc_p_13, hc_p_14, hc_p_15, hf_p_0, hf_p_1, hf_p_2, hf_p_3, hf_p_4, hf_p_5, hf_p_6, hf_p_7, hf_p_8, hf_p_9, hf_p_10, hf_p_11, hf_p_12, hf_p_13, hf_p_14, hf_p_15⟩ := xg BK_p.out) | ((with_reducible refine zC (N := 6) rfl ?_); refine zF ?hg (N := 6) ?hd (cs := #[.int .i64 0, .int .i64 0, .string ⟨#[]⟩, .int .i64 0, .slice none 0 0, .int .i64 0]) (t := 24) ?hr ?_; (case hd => rfl); (case hg => rfl); (case hr => first | (go_simp; done) | (go_simp; rfl)); intro g_x hg_ w5_ hbox_ hb_; have n0_ := za.mk (zH BK_p.out hb_); have n1_ := za.mk (Kd.R_below HR_l.out hb_); have n2_ := za.mk (zi HB.out hb_); have n3_ := za.mk ((by rw [hg_]; exact HB.out.size : w.heap.size ≤ g_x)); have n4_ := za.mk (hbox_); (try clear BK_p); (try clear HR_l); (try clear HB); (try clear GE_x); (try clear BK_x); have BK_p := n0_; have HR_l := n1_; have HB := n2_; have GE_x := n3_; have BK_x := n4_; clear n0_ n1_ n2_ n3_ n4_; (try clear hc_p_0 hc_p_1 hc_p_2 hc_p_3 hc_p_4 hc_p_5 hc_p_6 hc_p_7 hc_p_8 hc_p_9 hc_p_10 hc_p_11 hc_p_12 hc_p_13 hc_p_14 hc_p_15 hf_p_0 hf_p_1 hf_p_2 hf_p_3 hf_p_4 hf_p_5 hf_p_6 hf_p_7 hf_p_8 hf_p_9 hf_p_10 hf_p_11 hf_p_12 hf_p_13 hf_p_14 hf_p_15); clear hbox_ hb_ hg_; obtain ⟨hc_p_0, hc_p_1, hc_p_2, hc_p_3, hc_p_4, hc_p_5, hc_p_6, hc_p_7, hc_p_8, hc_p_9, hc_p_10, hc_p_11, hc_p_12, hc_p_13, hc_p_14, hc_p_15, hf_p_0, hf_p_1, hf_p_2, hf_p_3, hf_p_4, hf_p_5, hf_p_6, hf_p_7, hf_p_8, hf_p_9, hf_p_10, hf_p_11, hf_p_12, hf_p_13, hf_p_14, hf_p_15⟩ := xg BK_p.out; obtain ⟨hc_x_0, hc_x_1, hc_x_2, hc_x_3, hc_x_4, hc_x_5, hf_x_0, hf_x_1, hf_x_2, hf_x_3, hf_x_4, hf_x_5⟩ := yw BK_x.out) | ((with_reducible refine yQ (t := 24) (p := 6) rfl ?_); refine yJ (t := 24) (p := 6) (v := ?vo_w6_) (w1 := ((((((w5_.setCell ⟨g_x, 0, none⟩ (.int .i64 a2)).setCell ⟨g_x, 1, none⟩ (.int .i64 a3)).setCell ⟨g_x, 2, none⟩ (.string a4)).setCell ⟨g_x, 3, none⟩ (.int .i64 a5)).setCell ⟨g_x, 4, none⟩ (.slice A_l l6.length c_l)).setCell ⟨g_x, 5, none⟩ (.int .i64 a7))) ?hg ?ho ?hn ?hr ?_; (case ho => rfl); (case hg => rfl); (case hn => rfl); (case hr => first | (go_simp; done) | (go_simp; rfl)); intro w6_ hw_; have n0_ : za (w6_.heap[g_x]? = some (.cells #[.int .i64 a2, .int .i64 a3, .string a4, .int .i64 a5, .slice A_l l6.length c_l, .int .i64 a7] 24 (0, 0))) := ⟨(by rw [hw_]; exact (zJ (cs' := #[.int .i64 a2, .int .i64 a3, .string a4, .int .i64 a5, .slice A_l l6.length c_l, .int .i64 a7]) (zJ (cs' := #[.int .i64 a2, .int .i64 a3, .string a4, .int .i64 a5, .slice A_l l6.length c_l, .int .i64 0]) (zJ (cs' := #[.int .i64 a2, .int .i64 a3, .string a4, .int .i64 a5, .slice none 0 0, .int .i64 0]) (zJ (cs' := #[.int .i64 a2, .int .i64 a3, .string a4, .int .i64 0, .slice none 0 0, .int .i64 0]) (zJ (cs' := #[.int .i64 a2, .int .i64 a3, .string ⟨#[]⟩, .int .i64 0, .slice none 0 0, .int .i64 0]) (zJ (cs' := #[.int .i64 a2, .int .i64 0, .string ⟨#[]⟩, .int .i64 0, .slice none 0 0, .int .i64 0]) (BK_x.out) 0 _ rfl) 1 _ rfl) 2 _ rfl) 3 _ rfl) 4 _ rfl) 5 _ rfl))⟩; have n1_ : za (w6_.heap[g_p]? = some (.cells #[.string a0, .string a1, .int .i64 a2, .int .i64 a3, .string a4, .int .i64 a5, .slice A6 l6.length c6, .int .i64 a7, .int .i64 a8, .int .i64 a9, .string a10, .int .i64 a11, .slice A12 l12.length c12, .slice A13 l13.length c13, .slice A14 l14.length c14, .slice A15 l15.length c15] 65 (0, 0))) := ⟨(by rw [hw_]; exact (zU (p := ⟨g_x, 5, none⟩) (zU (p := ⟨g_x, 4, none⟩) (zU (p := ⟨g_x, 3, none⟩) (zU (p := ⟨g_x, 2, none⟩) (zU (p := ⟨g_x, 1, none⟩) (zU (p := ⟨g_x, 0, none⟩) (BK_p.out) (qG BK_p.out BK_x.out (by decide)) _) (qG BK_p.out BK_x.out (by decide)) _) (qG BK_p.out BK_x.out (by decide)) _) (qG BK_p.out BK_x.out (by decide)) _) (qG BK_p.out BK_x.out (by decide)) _) (qG BK_p.out BK_x.out (by decide)) _))⟩; have n2_ : za (Kd.R (Kd.int .i64) 3 w6_ w.heap.size (fun _ => True) (.slice A_l l6.length c_l) l6) := ⟨(by rw [hw_]; exact (Kd.R_mono (Kd.R_far (p := ⟨g_x, 5, none⟩) (Kd.R_far (p := ⟨g_x, 4, none⟩) (Kd.R_far (p := ⟨g_x, 3, none⟩) (Kd.R_far (p := ⟨g_x, 2, none⟩) (Kd.R_far (p := ⟨g_x, 1, none⟩) (Kd.R_far (p := ⟨g_x, 0, none⟩) (Kd.R_types HR_l.out BK_x.out (by decide)) (fun _ hk => hk.2) _) (fun _ hk => hk.2) _) (fun _ hk => hk.2) _) (fun _ hk => hk.2) _) (fun _ hk => hk.2) _) (fun _ hk => hk.2) _) (fun _ hk => hk.1)))⟩; have n3_ : za (Below w.heap.size w w6_) := ⟨(by rw [hw_]; exact (zh (g := g_x) (j := 5) (zh (g := g_x) (j := 4) (zh (g := g_x) (j := 3) (zh (g := g_x) (j := 2) (zh (g := g_x) (j := 1) (zh (g := g_x) (j := 0) (HB.out) GE_x.out) GE_x.out) GE_x.out) GE_x.out) GE_x.out) GE_x.out))⟩; (try clear BK_x); (try clear BK_p); (try clear HR_l); (try clear HB); have BK_x := n0_; have BK_p := n1_; have HR_l := n2_; have HB := n3_; clear n0_ n1_ n2_ n3_; (try clear hc_p_0 hc_p_1 hc_p_2 hc_p_3 hc_p_4 hc_p_5 hc_p_6 hc_p_7 hc_p_8 hc_p_9 hc_p_10 hc_p_11 hc_p_12 hc_p_13 hc_p_14 hc_p_15 hf_p_0 hf_p_1 hf_p_2 hf_p_3 hf_p_4 hf_p_5 hf_p_6 hf_p_7 hf_p_8 hf_p_9 hf_p_10 hf_p_11 hf_p_12 hf_p_13 hf_p_14 hf_p_15); (try clear hc_x_0 hc_x_1 hc_x_2 hc_x_3 hc_x_4 hc_x_5 hf_x_0 hf_x_1 hf_x_2 hf_x_3 hf_x_4 hf_x_5); clear hw_; obtain ⟨hc_p_0, hc_p_1, hc_p_2, hc_p_3, hc_p_4, hc_p_5, hc_p_6, hc_p_7, hc_p_8, hc_p_9, hc_p_10, hc_p_11, hc_p_12, hc_p_13, hc_p_14, hc_p_15, hf_p_0, hf_p_1, hf_p_2, hf_p_3, hf_p_4, hf_p_5, hf_p_6, hf_p_7, hf_p_8, hf_p_9, hf_p_10, hf_p_11, hf_p_12, hf_p_13, hf_p_14, hf_p_15⟩ := xg BK_p.out; obtain ⟨hc_x_0, hc_x_1, hc_x_2, hc_x_3, hc_x_4, hc_x_5, hf_x_0, hf_x_1, hf_x_2, hf_x_3, hf_x_4, hf_x_5⟩ := yw BK_x.out) | (go_at_call 32; (with_reducible refine (xt.calls k a2 a3 a4 a5 _ _ l6 a7 a2 a3 a4 a5 _ _ l6 a7 true _ ?side1 ?side2 ?side3 HL_l6.out HSM.out).mono ?_); (case side1 => exact (Kd.R_reads' HR_l.out).2.2); (case side2 => exact (Kd.R_reads' HR_l.out).2.1); (case side3 => exact Kd.C_below HR_l6.out HB.out); rintro e_ w7_ ⟨rfl, hb_⟩; have n0_ := za.mk (zH BK_p.out hb_); have n1_ := za.mk (zH BK_x.out hb_); have n2_ := za.mk (Kd.R_below HR_l.out hb_); have n3_ := za.mk (zi HB.out hb_); (try clear BK_p); (try clear BK_x); (try clear HR_l); (try clear HB); have BK_p := n0_; have BK_x := n1_; have HR_l := n2_; have HB := n3_; clear n0_ n1_ n2_ n3_; (try clear hc_p_0 hc_p_1 hc_p_2 hc_p_3 hc_p_4 hc_p_5 hc_p_6 hc_p_7 hc_p_8 hc_p_9 hc_p_10 hc_p_11 hc_p_12 hc_p_13 hc_p_14 hc_p_15 hf_p_0 hf_p_1 hf_p_2 hf_p_3 hf_p_4 hf_p_5 hf_p_6 hf_p_7 hf_p_8 hf_p_9 hf_p_10 hf_p_11 hf_p_12 hf_p_13 hf_p_14 hf_p_15); (try clear hc_x_0 hc_x_1 hc_x_2 hc_x_3 hc_x_4 hc_x_5 hf_x_0 hf_x_1 hf_x_2 hf_x_3 hf_x_4 hf_x_5); (try clear hb_); obtain ⟨hc_p_0, hc_p_1, hc_p_2, hc_p_3, hc_p_4, hc_p_5, hc_p_6, hc_p_7, hc_p_8, hc_p_9, hc_p_10, hc_p_11, hc_p_12, hc_p_13, hc_p_14, hc_p_15, hf_p_0, hf_p_1, hf_p_2, hf_p_3, hf_p_4, hf_p_5, hf_p_6, hf_p_7, hf_p_8, hf_p_9, hf_p_10, hf_p_11, hf_p_12, hf_p_13, hf_p_14, hf_p_15⟩ := xg BK_p.out; obtain ⟨hc_x_0, hc_x_1, hc_x_2, hc_x_3, hc_x_4, hc_x_5, hf_x_0, hf_x_1, hf_x_2, hf_x_3, hf_x_4, hf_x_5⟩ := yw BK_x.out))
      go_meet
      case rel => exact ⟨BK_p, HB⟩
     ·have c18b0 : (e == 0) = false := beq_eq_false_iff_ne.mpr c18
      have c18b1 : (e != 0) = true := bne_iff_ne.mpr c18
      clear c18 HGO
      go_wp2
      go_meet
      case rel => exact ⟨BK_p, HB⟩
   case rest =>
    clear BK_p HB HGO HP
    (try clear hc_p_0 hc_p_1 hc_p_2 hc_p_3 hc_p_4 hc_p_5 hc_p_6 hc_p_7 hc_p_8 hc_p_9 hc_p_10 hc_p_11 hc_p_12 hc_p_13 hc_p_14 hc_p_15 hf_p_0 hf_p_1 hf_p_2 hf_p_3 hf_p_4 hf_p_5 hf_p_6 hf_p_7 hf_p_8 hf_p_9 hf_p_10 hf_p_11 hf_p_12 hf_p_13 hf_p_14 hf_p_15)
    obtain ⟨BK_p, HB⟩ := hcut
    obtain ⟨hc_p_0, hc_p_1, hc_p_2, hc_p_3, hc_p_4, hc_p_5, hc_p_6, hc_p_7, hc_p_8, hc_p_9, hc_p_10, hc_p_11, hc_p_12, hc_p_13, hc_p_14, hc_p_15, hf_p_0, hf_p_1, hf_p_2, hf_p_3, hf_p_4, hf_p_5, hf_p_6, hf_p_7, hf_p_8, hf_p_9, hf_p_10, hf_p_11, hf_p_12, hf_p_13, hf_p_14, hf_p_15⟩ := xg BK_p.out
    obtain ⟨y, e, hput, hgo⟩ := HS_r.out
    clear HS_r
    have HP := za.mk hput
    have HGO := za.mk hgo
    clear hput hgo
    go_upto_if 92 with (first | (go_at_call 8; (with_reducible refine (yn.calls k a8 a9 a10 a11 _ _ l12 y e _ ?side1 HL_l12.out HP.out).mono ?_); (case side1 => exact Kd.C_below HR_l12.out HB.out); rintro e_ w101_ ⟨rfl, hb_⟩; have n0_ := za.mk (zH BK_p.out hb_); have n1_ := za.mk (zi HB.out hb_); (try clear BK_p); (try clear HB); have BK_p := n0_; have HB := n1_; clear n0_ n1_; (try clear hc_p_0 hc_p_1 hc_p_2 hc_p_3 hc_p_4 hc_p_5 hc_p_6 hc_p_7 hc_p_8 hc_p_9 hc_p_10 hc_p_11 hc_p_12 hc_p_13 hc_p_14 hc_p_15 hf_p_0 hf_p_1 hf_p_2 hf_p_3 hf_p_4 hf_p_5 hf_p_6 hf_p_7 hf_p_8 hf_p_9 hf_p_10 hf_p_11 hf_p_12 hf_p_13 hf_p_14 hf_p_15); (try clear hb_); obtain ⟨hc_p_0, hc_p_1, hc_p_2, hc_p_3, hc_p_4, hc_p_5, hc_p_6, hc_p_7, hc_p_8, hc_p_9, hc_p_10, hc_p_11, hc_p_12, hc_p_13, hc_p_14, hc_p_15, hf_p_0, hf_p_1, hf_p_2, hf_p_3, hf_p_4, hf_p_5, hf_p_6, hf_p_7, hf_p_8, hf_p_9, hf_p_10, hf_p_11, hf_p_12, hf_p_13, hf_p_14, hf_p_15⟩ := xg BK_p.out))
    (try simp only [Act.put, Vt, Vu, Vv])
    go_cut [] (fun wc => za (wc.heap[g_p]? = some (.cells #[.string a0, .string a1, .int .i64 a2, .int .i64 a3, .string a4, .int .i64 a5, .slice A6 l6.length c6, .int .i64 a7, .int .i64 a8, .int .i64 a9, .string a10, .int .i64 a11, .slice A12 l12.length c12, .slice A13 l13.length c13, .slice A14 l14.length c14, .slice A15 l15.length c15] 65 (0, 0))) ∧ za (Below w.heap.size w wc))
    case first =>
     as_aux_lemma =>
      by_cases c18 : e = 0
      ·obtain ⟨c19, c20, nx, hrd, hsm, c25⟩ := HGO.out c18
       clear HGO
       subst c18
       have c19b0 := eq_true c19
       have c19b1 := decide_eq_true c19
       have c19b2 : (9223372036854775807 < a0.size + y.size) = False := eq_false (Nat.not_lt.2 c19)
       have c20b0 := eq_true c20
       have c20b1 := decide_eq_true c20
       have c20b2 : (9223372036854775807 < (a0 ++ y).size + a1.size) = False := eq_false (Nat.not_lt.2 c20)
       have c20b3 := c20b2
       simp only [Vz] at c20b3
       have c25b0 : ((wrap64 (nx - (a0.size : Int))) == (y.size : Int)) = true := beq_iff_eq.mpr c25
       have c25b1 : ((wrap64 (nx - (a0.size : Int))) != (y.size : Int)) = false := bne_eq_false_iff_eq.mpr c25
       clear c25
       have HRD := za.mk hrd
       have HSM := za.mk hsm
       clear hrd hsm
       go_wp2_with (first | (go_at_call 29; (with_reducible refine (xm.calls k ((a0 ++ y) ++ a1) (a0.size : Int) a8 a9 a10 a11 l12 nx 0 _ HRD.out).mono ?_); rintro e_ w102_ ⟨v_, rfl, hr_, hb_⟩; obtain ⟨A_l, c_l, ev_⟩ := Kd.S_slice hr_; subst ev_; have n0_ := za.mk (zH BK_p.out hb_); have n1_ := za.mk (zi HB.out hb_); have n2_ := za.mk (Kd.S_lower hr_ HB.out.size); (try clear BK_p); (try clear HB); (try clear HR_l); have BK_p := n0_; have HB := n1_; have HR_l := n2_; clear n0_ n1_ n2_; (try clear hc_p_0 hc_p_1 hc_p_2 hc_p_3 hc_p_4 hc_p_5 hc_p_6 hc_p_7 hc_p_8 hc_p_9 hc_p_10 hc_p_11 hc_p_12 hc_p_13 hc_p_14 hc_p_15 hf_p_0 hf_p_1 hf_p_2 hf_p_3 hf_p_4 hf_p_5 hf_p_6 hf_p_7 hf_p_8 hf_p_9 hf_p_10 hf_p_11 hf_p_12 hf_p_13 hf_p_14 hf_p_15); (try clear hb_); (try clear hr_); obtain ⟨hc_p_0, hc_p_1, hc_p_2, hc_p_3, hc_p_4, hc_p_5, hc_p_6, hc_p_7, hc_p_8, hc_p_9, hc_p_10, hc_p_11, hc_p_12, hc_p_13, hc_p_14, hc_p_15, hf_p_0, hf_p_1, hf_p_2, hf_p_3, hf_p_4, hf_p_5, hf_p_6, hf_p_7, hf_p_8, hf_p_9, hf_p_10, hf_p_11, hf_p_12, hf_p_13, hf_p_14, hf_p_15⟩ := xg BK_p.out) | ((with_reducible refine zC (N := 11) rfl ?_); refine zF ?hg (N := 11) ?hd (cs := #[.int .i64 0, .int .i64 0, .string ⟨#[]⟩, .int .i64 0, .slice none 0 0]) (t := 27) ?hr ?_; (case hd => rfl); (case hg => rfl); (case hr => first | (go_simp; done) | (go_simp; rfl)); intro g_x hg_ w103_ hbox_ hb_; have n0_ := za.mk (zH BK_p.out hb_); have n1_ := za.mk (Kd.S_below HR_l.out hb_); have n2_ := za.mk (zi HB.out hb_); have n3_ := za.mk ((by rw [hg_]; exact HB.out.size : w.heap.size ≤ g_x)); have n4_ := za.mk (hbox_); (try clear BK_p); (try clear HR_l); (try clear HB); (try clear GE_x); (try clear BK_x); have BK_p := n0_; have HR_l := n1_; have HB := n2_; have GE_x := n3_; have BK_x := n4_; clear n0_ n1_ n2_ n3_ n4_; (try clear hc_p_0 hc_p_1 hc_p_2 hc_p_3 hc_p_4 hc_p_5 hc_p_6 hc_p_7 hc_p_8 hc_p_9 hc_p_10 hc_p_11 hc_p_12 hc_p_13 hc_p_14 hc_p_15 hf_p_0 hf_p_1 hf_p_2 hf_p_3 hf_p_4 hf_p_5 hf_p_6 hf_p_7 hf_p_8 hf_p_9 hf_p_10 hf_p_11 hf_p_12 hf_p_13 hf_p_14 hf_p_15); clear hbox_ hb_ hg_; obtain ⟨hc_p_0, hc_p_1, hc_p_2, hc_p_3, hc_p_4, hc_p_5, hc_p_6, hc_p_7, hc_p_8, hc_p_9, hc_p_10, hc_p_11, hc_p_12, hc_p_13, hc_p_14, hc_p_15, hf_p_0, hf_p_1, hf_p_2, hf_p_3, hf_p_4, hf_p_5, hf_p_6, hf_p_7, hf_p_8, hf_p_9, hf_p_10, hf_p_11, hf_p_12, hf_p_13, hf_p_14, hf_p_15⟩ := xg BK_p.out; obtain ⟨hc_x_0, hc_x_1, hc_x_2, hc_x_3, hc_x_4, hf_x_0, hf_x_1, hf_x_2, hf_x_3, hf_x_4⟩ := yu BK_x.out) | ((with_reducible refine yQ (t := 27) (p := 11) rfl ?_); refine yJ (t := 27) (p := 11) (v := ?vo_w104_) (w1 := (((((w103_.setCell ⟨g_x, 0, none⟩ (.int .i64 a8)).setCell ⟨g_x, 1, none⟩ (.int .i64 a9)).setCell ⟨g_x, 2, none⟩ (.string a10)).setCell ⟨g_x, 3, none⟩ (.int .i64 a11)).setCell ⟨g_x, 4, none⟩ (.slice A_l l12.length c_l))) ?hg ?ho ?hn ?hr ?_; (case ho => rfl); (case hg => rfl); (case hn => rfl); (case hr => first | (go_simp; done) | (go_simp; rfl)); intro w104_ hw_; have n0_ : za (w104_.heap[g_x]? = some (.cells #[.int .i64 a8, .int .i64 a9, .string a10, .int .i64 a11, .slice A_l l12.length c_l] 27 (0, 0))) := ⟨(by rw [hw_]; exact (zJ (cs' := #[.int .i64 a8, .int .i64 a9, .string a10, .int .i64 a11, .slice A_l l12.length c_l]) (zJ (cs' := #[.int .i64 a8, .int .i64 a9, .string a10, .int .i64 a11, .slice none 0 0]) (zJ (cs' := #[.int .i64 a8, .int .i64 a9, .string a10, .int .i64 0, .slice none 0 0]) (zJ (cs' := #[.int .i64 a8, .int .i64 a9, .string ⟨#[]⟩, .int .i64 0, .slice none 0 0]) (zJ (cs' := #[.int .i64 a8, .int .i64 0, .string ⟨#[]⟩, .int .i64 0, .slice none 0 0]) (BK_x.out) 0 _ rfl) 1 _ rfl) 2 _ rfl) 3 _ rfl) 4 _ rfl))⟩; have n1_ : za (w104_.heap[g_p]? = some (.cells #[.string a0, .string a1, .int .i64 a2, .int .i64 a3, .string a4, .int .i64 a5, .slice A6 l6.length c6, .int .i64 a7, .int .i64 a8, .int .i64 a9, .string a10, .int .i64 a11, .slice A12 l12.length c12, .slice A13 l13.length c13, .slice A14 l14.length c14, .slice A15 l15.length c15] 65 (0, 0))) := ⟨(by rw [hw_]; exact (zU (p := ⟨g_x, 4, none⟩) (zU (p := ⟨g_x, 3, none⟩) (zU (p := ⟨g_x, 2, none⟩) (zU (p := ⟨g_x, 1, none⟩) (zU (p := ⟨g_x, 0, none⟩) (BK_p.out) (qG BK_p.out BK_x.out (by decide)) _) (qG BK_p.out BK_x.out (by decide)) _) (qG BK_p.out BK_x.out (by decide)) _) (qG BK_p.out BK_x.out (by decide)) _) (qG BK_p.out BK_x.out (by decide)) _))⟩; have n2_ : za (Kd.S k81 81 w104_ w.heap.size (fun _ => True) (.slice A_l l12.length c_l) l12) := ⟨(by rw [hw_]; exact (Kd.S_mono (Kd.S_far (p := ⟨g_x, 4, none⟩) (Kd.S_far (p := ⟨g_x, 3, none⟩) (Kd.S_far (p := ⟨g_x, 2, none⟩) (Kd.S_far (p := ⟨g_x, 1, none⟩) (Kd.S_far (p := ⟨g_x, 0, none⟩) (Kd.S_types HR_l.out BK_x.out (by decide)) (fun _ hk => hk.2) _) (fun _ hk => hk.2) _) (fun _ hk => hk.2) _) (fun _ hk => hk.2) _) (fun _ hk => hk.2) _) (fun _ hk => hk.1)))⟩; have n3_ : za (Below w.heap.size w w104_) := ⟨(by rw [hw_]; exact (zh (g := g_x) (j := 4) (zh (g := g_x) (j := 3) (zh (g := g_x) (j := 2) (zh (g := g_x) (j := 1) (zh (g := g_x) (j := 0) (HB.out) GE_x.out) GE_x.out) GE_x.out) GE_x.out) GE_x.out))⟩; (try clear BK_x); (try clear BK_p); (try clear HR_l); (try clear HB); have BK_x := n0_; have BK_p := n1_; have HR_l := n2_; have HB := n3_; clear n0_ n1_ n2_ n3_; (try clear hc_p_0 hc_p_1 hc_p_2 hc_p_3 hc_p_4 hc_p_5 hc_p_6 hc_p_7 hc_p_8 hc_p_9 hc_p_10 hc_p_11 hc_p_12 hc_p_13 hc_p_14 hc_p_15 hf_p_0 hf_p_1 hf_p_2 hf_p_3 hf_p_4 hf_p_5 hf_p_6 hf_p_7 hf_p_8 hf_p_9 hf_p_10 hf_p_11 hf_p_12 hf_p_13 hf_p_14 hf_p_15); (try clear hc_x_0 hc_x_1 hc_x_2 hc_x_3 hc_x_4 hf_x_0 hf_x_1 hf_x_2 hf_x_3 hf_x_4); clear hw_; obtain ⟨hc_p_0, hc_p_1, hc_p_2, hc_p_3, hc_p_4, hc_p_5, hc_p_6, hc_p_7, hc_p_8, hc_p_9, hc_p_10, hc_p_11, hc_p_12, hc_p_13, hc_p_14, hc_p_15, hf_p_0, hf_p_1, hf_p_2, hf_p_3, hf_p_4, hf_p_5, hf_p_6, hf_p_7, hf_p_8, hf_p_9, hf_p_10, hf_p_11, hf_p_12, hf_p_13, hf_p_14, hf_p_15⟩ := xg BK_p.out; obtain ⟨hc_x_0, hc_x_1, hc_x_2, hc_x_3, hc_x_4, hf_x_0, hf_x_1, hf_x_2, hf_x_3, hf_x_4⟩ := yu BK_x.out) | (go_at_call 33; (with_reducible refine (xd.calls k a8 a9 a10 a11 _ _ l12 a8 a9 a10 a11 _ _ l12 true _ ?side1 ?side2 ?side3 HL_l12.out HSM.out).mono ?_); (case side1 => exact (Kd.S_reads' HR_l.out).2.2); (case side2 => exact (Kd.S_reads' HR_l.out).2.1); (case side3 => exact Kd.C_below HR_l12.out HB.out); rintro e_ w105_ ⟨rfl, hb_⟩; have n0_ := za.mk (zH BK_p.out hb_); have n1_ := za.mk (zH BK_x.out hb_); have n2_ := za.mk (Kd.S_below HR_l.out hb_); have n3_ := za.mk (zi HB.out hb_); (try clear BK_p); (try clear BK_x); (try clear HR_l); (try clear HB); have BK_p := n0_; have BK_x := n1_; have HR_l := n2_; have HB := n3_; clear n0_ n1_ n2_ n3_; (try clear hc_p_0 hc_p_1 hc_p_2 hc_p_3 hc_p_4 hc_p_5 hc_p_6 hc_p_7 hc_p_8 hc_p_9 hc_p_10 hc_p_11 hc_p_12 hc_p_13 hc_p_14 hc_p_15 hf_p_0 hf_p_1 hf_p_2 hf_p_3 hf_p_4 hf_p_5 hf_p_6 hf_p_7 hf_p_8 hf_p_9 hf_p_10 hf_p_11 hf_p_12 hf_p_13 hf_p_14 hf_p_15); (try clear hc_x_0 hc_x_1 hc_x_2 hc_x_3 hc_x_4 hf_x_0 hf_x_1 hf_x_2 hf_x_3 hf_x_4); (try clear hb_); obtain ⟨hc_p_0, hc_p_1, hc_p_2, hc_p_3, hc_p_4, hc_p_5, hc_p_6, hc_p_7, hc_p_8, hc_p_9, hc_p_10, hc_p_11, hc_p_12, hc_p_13, hc_p_14, hc_p_15, hf_p_0, hf_p_1, hf_p_2, hf_p_3, hf_p_4, hf_p_5, hf_p_6, hf_p_7, hf_p_8, hf_p_9, hf_p_10, hf_p_11, hf_p_12, hf_p_13, hf_p_14, hf_p_15⟩ := xg BK_p.out; obtain ⟨hc_x_0, hc_x_1, hc_x_2, hc_x_3, hc_x_4, hf_x_0, hf_x_1, hf_x_2, hf_x_3, hf_x_4⟩ := yu BK_x.out))
       go_meet
       case rel => exact ⟨BK_p, HB⟩
      ·have c18b0 : (e == 0) = false := beq_eq_false_iff_ne.mpr c18
       have c18b1 : (e != 0) = true := bne_iff_ne.mpr c18
       clear c18 HGO
       go_wp2
       go_meet
       case rel => exact ⟨BK_p, HB⟩
    case rest =>
     clear BK_p HB HGO HP
     (try clear hc_p_0 hc_p_1 hc_p_2 hc_p_3 hc_p_4 hc_p_5 hc_p_6 hc_p_7 hc_p_8 hc_p_9 hc_p_10 hc_p_11 hc_p_12 hc_p_13 hc_p_14 hc_p_15 hf_p_0 hf_p_1 hf_p_2 hf_p_3 hf_p_4 hf_p_5 hf_p_6 hf_p_7 hf_p_8 hf_p_9 hf_p_10 hf_p_11 hf_p_12 hf_p_13 hf_p_14 hf_p_15)
     obtain ⟨BK_p, HB⟩ := hcut
     obtain ⟨hc_p_0, hc_p_1, hc_p_2, hc_p_3, hc_p_4, hc_p_5, hc_p_6, hc_p_7, hc_p_8, hc_p_9, hc_p_10, hc_p_11, hc_p_12, hc_p_13, hc_p_14, hc_p_15, hf_p_0, hf_p_1, hf_p_2, hf_p_3, hf_p_4, hf_p_5, hf_p_6, hf_p_7, hf_p_8, hf_p_9, hf_p_10, hf_p_11, hf_p_12, hf_p_13, hf_p_14, hf_p_15⟩ := xg BK_p.out
     obtain ⟨y, e, hput, hgo⟩ := HS_i.out
     clear HS_i
     have HP := za.mk hput
     have HGO := za.mk hgo
     clear hput hgo
     go_upto_if 130 with (first | (go_at_call 19; (with_reducible refine (xX.calls k _ _ l13 y e _ ?side1 HL_l13.out HP.out).mono ?_); (case side1 => exact Kd.C_below HR_l13.out HB.out); rintro e_ w201_ ⟨rfl, hb_⟩; have n0_ := za.mk (zH BK_p.out hb_); have n1_ := za.mk (zi HB.out hb_); (try clear BK_p); (try clear HB); have BK_p := n0_; have HB := n1_; clear n0_ n1_; (try clear hc_p_0 hc_p_1 hc_p_2 hc_p_3 hc_p_4 hc_p_5 hc_p_6 hc_p_7 hc_p_8 hc_p_9 hc_p_10 hc_p_11 hc_p_12 hc_p_13 hc_p_14 hc_p_15 hf_p_0 hf_p_1 hf_p_2 hf_p_3 hf_p_4 hf_p_5 hf_p_6 hf_p_7 hf_p_8 hf_p_9 hf_p_10 hf_p_11 hf_p_12 hf_p_13 hf_p_14 hf_p_15); (try clear hb_); obtain ⟨hc_p_0, hc_p_1, hc_p_2, hc_p_3, hc_p_4, hc_p_5, hc_p_6, hc_p_7, hc_p_8, hc_p_9, hc_p_10, hc_p_11, hc_p_12, hc_p_13, hc_p_14, hc_p_15, hf_p_0, hf_p_1, hf_p_2, hf_p_3, hf_p_4, hf_p_5, hf_p_6, hf_p_7, hf_p_8, hf_p_9, hf_p_10, hf_p_11, hf_p_12, hf_p_13, hf_p_14, hf_p_15⟩ := xg BK_p.out))
     (try simp only [Act.put, Vt, Vu, Vv])
     go_cut [] (fun wc => za (wc.heap[g_p]? = some (.cells #[.string a0, .string a1, .int .i64 a2, .int .i64 a3, .string a4, .int .i64 a5, .slice A6 l6.length c6, .int .i64 a7, .int .i64 a8, .int .i64 a9, .string a10, .int .i64 a11, .slice A12 l12.length c12, .slice A13 l13.length c13, .slice A14 l14.length c14, .slice A15 l15.length c15] 65 (0, 0))) ∧ za (Below w.heap.size w wc))
     case first =>
      as_aux_lemma =>
       by_cases c18 : e = 0
       ·obtain ⟨c19, c20, nx, hrd, hsm, c25⟩ := HGO.out c18
        clear HGO
        subst c18
        have c19b0 := eq_true c19
        have c19b1 := decide_eq_true c19
        have c19b2 : (9223372036854775807 < a0.size + y.size) = False := eq_false (Nat.not_lt.2 c19)
        have c20b0 := eq_true c20
        have c20b1 := decide_eq_true c20
        have c20b2 : (9223372036854775807 < (a0 ++ y).size + a1.size) = False := eq_false (Nat.not_lt.2 c20)
        have c20b3 := c20b2
        simp only [Vz] at c20b3
        have c25b0 : ((wrap64 (nx - (a0.size : Int))) == (y.size : Int)) = true := beq_iff_eq.mpr c25
        have c25b1 : ((wrap64 (nx - (a0.size : Int))) != (y.size : Int)) = false := bne_eq_false_iff_eq.mpr c25
        clear c25
        have HRD := za.mk hrd
        have HSM := za.mk hsm
        clear hrd hsm
        go_wp2_with (first | (go_at_call 30; (with_reducible refine (xz.calls k ((a0 ++ y) ++ a1) (a0.size : Int) l13 nx 0 _ HRD.out).mono ?_); rintro e_ w202_ ⟨v_, rfl, hr_, hb_⟩; obtain ⟨A_l, c_l, ev_⟩ := Kd.S_slice hr_; subst ev_; have n0_ := za.mk (zH BK_p.out hb_); have n1_ := za.mk (zi HB.out hb_); have n2_ := za.mk (Kd.S_lower hr_ HB.out.size); (try clear BK_p); (try clear HB); (try clear HR_l); have BK_p := n0_; have HB := n1_; have HR_l := n2_; clear n0_ n1_ n2_; (try clear hc_p_0 hc_p_1 hc_p_2 hc_p_3 hc_p_4 hc_p_5 hc_p_6 hc_p_7 hc_p_8 hc_p_9 hc_p_10 hc_p_11 hc_p_12 hc_p_13 hc_p_14 hc_p_15 hf_p_0 hf_p_1 hf_p_2 hf_p_3 hf_p_4 hf_p_5 hf_p_6 hf_p_7 hf_p_8 hf_p_9 hf_p_10 hf_p_11 hf_p_12 hf_p_13 hf_p_14 hf_p_15); (try clear hb_); (try clear hr_); obtain ⟨hc_p_0, hc_p_1, hc_p_2, hc_p_3, hc_p_4, hc_p_5, hc_p_6, hc_p_7, hc_p_8, hc_p_9, hc_p_10, hc_p_11, hc_p_12, hc_p_13, hc_p_14, hc_p_15, hf_p_0, hf_p_1, hf_p_2, hf_p_3, hf_p_4, hf_p_5, hf_p_6, hf_p_7, hf_p_8, hf_p_9, hf_p_10, hf_p_11, hf_p_12, hf_p_13, hf_p_14, hf_p_15⟩ := xg BK_p.out) | (go_at_call 34; (with_reducible refine (zS.calls k _ _ l13 _ _ l13 true _ ?side1 ?side2 ?side3 HL_l13.out HSM.out).mono ?_); (case side1 => exact (Kd.S_reads' HR_l.out).2.2); (case side2 => exact (Kd.S_reads' HR_l.out).2.1); (case side3 => exact Kd.C_below HR_l13.out HB.out); rintro e_ w203_ ⟨rfl, hb_⟩; have n0_ := za.mk (zH BK_p.out hb_); have n1_ := za.mk (Kd.S_below HR_l.out hb_); have n2_ := za.mk (zi HB.out hb_); (try clear BK_p); (try clear HR_l); (try clear HB); have BK_p := n0_; have HR_l := n1_; have HB := n2_; clear n0_ n1_ n2_; (try clear hc_p_0 hc_p_1 hc_p_2 hc_p_3 hc_p_4 hc_p_5 hc_p_6 hc_p_7 hc_p_8 hc_p_9 hc_p_10 hc_p_11 hc_p_12 hc_p_13 hc_p_14 hc_p_15 hf_p_0 hf_p_1 hf_p_2 hf_p_3 hf_p_4 hf_p_5 hf_p_6 hf_p_7 hf_p_8 hf_p_9 hf_p_10 hf_p_11 hf_p_12 hf_p_13 hf_p_14 hf_p_15); (try clear hb_); obtain ⟨hc_p_0, hc_p_1, hc_p_2, hc_p_3, hc_p_4, hc_p_5, hc_p_6, hc_p_7, hc_p_8, hc_p_9, hc_p_10, hc_p_11, hc_p_12, hc_p_13, hc_p_14, hc_p_15, hf_p_0, hf_p_1, hf_p_2, hf_p_3, hf_p_4, hf_p_5, hf_p_6, hf_p_7, hf_p_8, hf_p_9, hf_p_10, hf_p_11, hf_p_12, hf_p_13, hf_p_14, hf_p_15⟩ := xg BK_p.out))
        go_meet
        case rel => exact ⟨BK_p, HB⟩
       ·have c18b0 : (e == 0) = false := beq_eq_false_iff_ne.mpr c18
        have c18b1 : (e != 0) = true := bne_iff_ne.mpr c18
        clear c18 HGO
        go_wp2
        go_meet
        case rel => exact ⟨BK_p, HB⟩
     case rest =>
      clear BK_p HB HGO HP
      (try clear hc_p_0 hc_p_1 hc_p_2 hc_p_3 hc_p_4 hc_p_5 hc_p_6 hc_p_7 hc_p_8 hc_p_9 hc_p_10 hc_p_11 hc_p_12 hc_p_13 hc_p_14 hc_p_15 hf_p_0 hf_p_1 hf_p_2 hf_p_3 hf_p_4 hf_p_5 hf_p_6 hf_p_7 hf_p_8 hf_p_9 hf_p_10 hf_p_11 hf_p_12 hf_p_13 hf_p_14 hf_p_15)
      obtain ⟨BK_p, HB⟩ := hcut
      obtain ⟨hc_p_0, hc_p_1, hc_p_2, hc_p_3, hc_p_4, hc_p_5, hc_p_6, hc_p_7, hc_p_8, hc_p_9, hc_p_10, hc_p_11, hc_p_12, hc_p_13, hc_p_14, hc_p_15, hf_p_0, hf_p_1, hf_p_2, hf_p_3, hf_p_4, hf_p_5, hf_p_6, hf_p_7, hf_p_8, hf_p_9, hf_p_10, hf_p_11, hf_p_12, hf_p_13, hf_p_14, hf_p_15⟩ := xg BK_p.out
      obtain ⟨y, e, hput, hgo⟩ := HS_v.out
      clear HS_v
      have HP := za.mk hput
      have HGO := za.mk hgo
      clear hput hgo
      go_upto_if 168 with (first | (go_at_call 20; (with_reducible refine (xO.calls k _ _ l14 y e _ ?side1 HL_l14.out HP.out).mono ?_); (case side1 => exact Kd.C_below HR_l14.out HB.out); rintro e_ w301_ ⟨rfl, hb_⟩; have n0_ := za.mk (zH BK_p.out hb_); have n1_ := za.mk (zi HB.out hb_); (try clear BK_p); (try clear HB); have BK_p := n0_; have HB := n1_; clear n0_ n1_; (try clear hc_p_0 hc_p_1 hc_p_2 hc_p_3 hc_p_4 hc_p_5 hc_p_6 hc_p_7 hc_p_8 hc_p_9 hc_p_10 hc_p_11 hc_p_12 hc_p_13 hc_p_14 hc_p_15 hf_p_0 hf_p_1 hf_p_2 hf_p_3 hf_p_4 hf_p_5 hf_p_6 hf_p_7 hf_p_8 hf_p_9 hf_p_10 hf_p_11 hf_p_12 hf_p_13 hf_p_14 hf_p_15); (try clear hb_); obtain ⟨hc_p_0, hc_p_1, hc_p_2, hc_p_3, hc_p_4, hc_p_5, hc_p_6, hc_p_7, hc_p_8, hc_p_9, hc_p_10, hc_p_11, hc_p_12, hc_p_13, hc_p_14, hc_p_15, hf_p_0, hf_p_1, hf_p_2, hf_p_3, hf_p_4, hf_p_5, hf_p_6, hf_p_7, hf_p_8, hf_p_9, hf_p_10, hf_p_11, hf_p_12, hf_p_13, hf_p_14, hf_p_15⟩ := xg BK_p.out))
      (try simp only [Act.put, Vt, Vu, Vv])
      go_cut [] (fun wc => za (wc.heap[g_p]? = some (.cells #[.string a0, .string a1, .int .i64 a2, .int .i64 a3, .string a4, .int .i64 a5, .slice A6 l6.length c6, .int .i64 a7, .int .i64 a8, .int .i64 a9, .string a10, .int .i64 a11, .slice A12 l12.length c12, .slice A13 l13.length c13, .slice A14 l14.length c14, .slice A15 l15.length c15] 65 (0, 0))) ∧ za (Below w.heap.size w wc))
      case first =>
       as_aux_lemma =>
        by_cases c18 : e = 0
        ·obtain ⟨c19, c20, nx, hrd, hsm, c25⟩ := HGO.out c18
         clear HGO
         subst c18
         have c19b0 := eq_true c19
         have c19b1 := decide_eq_true c19
         have c19b2 : (9223372036854775807 < a0.size + y.size) = False := eq_false (Nat.not_lt.2 c19)
         have c20b0 := eq_true c20
         have c20b1 := decide_eq_true c20
         have c20b2 : (9223372036854775807 < (a0 ++ y).size + a1.size) = False := eq_false (Nat.not_lt.2 c20)
         have c20b3 := c20b2
         simp only [Vz] at c20b3
         have c25b0 : ((wrap64 (nx - (a0.size : Int))) == (y.size : Int)) = true := beq_iff_eq.mpr c25
         have c25b1 : ((wrap64 (nx - (a0.size : Int))) != (y.size : Int)) = false := bne_eq_false_iff_eq.mpr c25
         clear c25
         have HRD := za.mk hrd
         have HSM := za.mk hsm
         clear hrd hsm
         go_wp2_with (first | (go_at_call 31; (with_reducible refine (xc.calls k ((a0 ++ y) ++ a1) (a0.size : Int) l14 nx 0 _ HRD.out).mono ?_); rintro e_ w302_ ⟨v_, rfl, hr_, hb_⟩; obtain ⟨A_l, c_l, ev_⟩ := Kd.R_slice hr_; subst ev_; have n0_ := za.mk (zH BK_p.out hb_); have n1_ := za.mk (zi HB.out hb_); have n2_ := za.mk (Kd.R_lower hr_ HB.out.size); (try clear BK_p); (try clear HB); (try clear HR_l); have BK_p := n0_; have HB := n1_; have HR_l := n2_; clear n0_ n1_ n2_; (try clear hc_p_0 hc_p_1 hc_p_2 hc_p_3 hc_p_4 hc_p_5 hc_p_6 hc_p_7 hc_p_8 hc_p_9 hc_p_10 hc_p_11 hc_p_12 hc_p_13 hc_p_14 hc_p_15 hf_p_0 hf_p_1 hf_p_2 hf_p_3 hf_p_4 hf_p_5 hf_p_6 hf_p_7 hf_p_8 hf_p_9 hf_p_10 hf_p_11 hf_p_12 hf_p_13 hf_p_14 hf_p_15); (try clear hb_); (try clear hr_); obtain ⟨hc_p_0, hc_p_1, hc_p_2, hc_p_3, hc_p_4, hc_p_5, hc_p_6, hc_p_7, hc_p_8, hc_p_9, hc_p_10, hc_p_11, hc_p_12, hc_p_13, hc_p_14, hc_p_15, hf_p_0, hf_p_1, hf_p_2, hf_p_3, hf_p_4, hf_p_5, hf_p_6, hf_p_7, hf_p_8, hf_p_9, hf_p_10, hf_p_11, hf_p_12, hf_p_13, hf_p_14, hf_p_15⟩ := xg BK_p.out) | (go_at_call 35; (with_reducible refine (yb.calls k _ _ l14 _ _ l14 true _ ?side1 ?side2 ?side3 HL_l14.out HSM.out).mono ?_); (case side1 => exact (Kd.R_reads' HR_l.out).2.2); (case side2 => exact (Kd.R_reads' HR_l.out).2.1); (case side3 => exact Kd.C_below HR_l14.out HB.out); rintro e_ w303_ ⟨rfl, hd_⟩; have hb_ := hd_.below; clear hd_; have n0_ := za.mk (zH BK_p.out hb_); have n1_ := za.mk (Kd.R_below HR_l.out hb_); have n2_ := za.mk (zi HB.out hb_); (try clear BK_p); (try clear HR_l); (try clear HB); have BK_p := n0_; have HR_l := n1_; have HB := n2_; clear n0_ n1_ n2_; (try clear hc_p_0 hc_p_1 hc_p_2 hc_p_3 hc_p_4 hc_p_5 hc_p_6 hc_p_7 hc_p_8 hc_p_9 hc_p_10 hc_p_11 hc_p_12 hc_p_13 hc_p_14 hc_p_15 hf_p_0 hf_p_1 hf_p_2 hf_p_3 hf_p_4 hf_p_5 hf_p_6 hf_p_7 hf_p_8 hf_p_9 hf_p_10 hf_p_11 hf_p_12 hf_p_13 hf_p_14 hf_p_15); (try clear hb_); obtain ⟨hc_p_0, hc_p_1, hc_p_2, hc_p_3, hc_p_4, hc_p_5, hc_p_6, hc_p_7, hc_p_8, hc_p_9, hc_p_10, hc_p_11, hc_p_12, hc_p_13, hc_p_14, hc_p_15, hf_p_0, hf_p_1, hf_p_2, hf_p_3, hf_p_4, hf_p_5, hf_p_6, hf_p_7, hf_p_8, hf_p_9, hf_p_10, hf_p_11, hf_p_12, hf_p_13, hf_p_14, hf_p_15⟩ := xg BK_p.out))
         go_meet
         case rel => exact ⟨BK_p, HB⟩
        ·have c18b0 : (e == 0) = false := beq_eq_false_iff_ne.mpr c18
         have c18b1 : (e != 0) = true := bne_iff_ne.mpr c18
         clear c18 HGO
         go_wp2
         go_meet
         case rel => exact ⟨BK_p, HB⟩
      case rest =>
       clear BK_p HB HGO HP
       (try clear hc_p_0 hc_p_1 hc_p_2 hc_p_3 hc_p_4 hc_p_5 hc_p_6 hc_p_7 hc_p_8 hc_p_9 hc_p_10 hc_p_11 hc_p_12 hc_p_13 hc_p_14 hc_p_15 hf_p_0 hf_p_1 hf_p_2 hf_p_3 hf_p_4 hf_p_5 hf_p_6 hf_p_7 hf_p_8 hf_p_9 hf_p_10 hf_p_11 hf_p_12 hf_p_13 hf_p_14 hf_p_15)
       obtain ⟨BK_p, HB⟩ := hcut
       obtain ⟨hc_p_0, hc_p_1, hc_p_2, hc_p_3, hc_p_4, hc_p_5, hc_p_6, hc_p_7, hc_p_8, hc_p_9, hc_p_10, hc_p_11, hc_p_12, hc_p_13, hc_p_14, hc_p_15, hf_p_0, hf_p_1, hf_p_2, hf_p_3, hf_p_4, hf_p_5, hf_p_6, hf_p_7, hf_p_8, hf_p_9, hf_p_10, hf_p_11, hf_p_12, hf_p_13, hf_p_14, hf_p_15⟩ := xg BK_p.out
       obtain ⟨y, e, hput, hgo⟩ := HS_p.out
       clear HS_p
       have HP := za.mk hput
       have HGO := za.mk hgo
       clear hput hgo
       go_upto_if 206 with (first | (go_at_call 21; (with_reducible refine (xN.calls k _ _ l15 y e _ ?side1 HL_l15.out HP.out).mono ?_); (case side1 => exact Kd.C_below HR_l15.out HB.out); rintro e_ w401_ ⟨rfl, hb_⟩; have n0_ := za.mk (zH BK_p.out hb_); have n1_ := za.mk (zi HB.out hb_); (try clear BK_p); (try clear HB); have BK_p := n0_; have HB := n1_; clear n0_ n1_; (try clear hc_p_0 hc_p_1 hc_p_2 hc_p_3 hc_p_4 hc_p_5 hc_p_6 hc_p_7 hc_p_8 hc_p_9 hc_p_10 hc_p_11 hc_p_12 hc_p_13 hc_p_14 hc_p_15 hf_p_0 hf_p_1 hf_p_2 hf_p_3 hf_p_4 hf_p_5 hf_p_6 hf_p_7 hf_p_8 hf_p_9 hf_p_10 hf_p_11 hf_p_12 hf_p_13 hf_p_14 hf_p_15); (try clear hb_); obtain ⟨hc_p_0, hc_p_1, hc_p_2, hc_p_3, hc_p_4, hc_p_5, hc_p_6, hc_p_7, hc_p_8, hc_p_9, hc_p_10, hc_p_11, hc_p_12, hc_p_13, hc_p_14, hc_p_15, hf_p_0, hf_p_1, hf_p_2, hf_p_3, hf_p_4, hf_p_5, hf_p_6, hf_p_7, hf_p_8, hf_p_9, hf_p_10, hf_p_11, hf_p_12, hf_p_13, hf_p_14, hf_p_15⟩ := xg BK_p.out))
       (try simp only [Act.put, Vt, Vu, Vv])
       go_cut [] (fun wc => za (wc.heap[g_p]? = some (.cells #[.string a0, .string a1, .int .i64 a2, .int .i64 a3, .string a4, .int .i64 a5, .slice A6 l6.length c6, .int .i64 a7, .int .i64 a8, .int .i64 a9, .string a10, .int .i64 a11, .slice A12 l12.length c12, .slice A13 l13.length c13, .slice A14 l14.length c14, .slice A15 l15.length c15] 65 (0, 0))) ∧ za (Below w.heap.size w wc))
       case first =>
        as_aux_lemma =>
         by_cases c18 : e = 0
         ·obtain ⟨c19, c20, nx, hrd, hsm, c25⟩ := HGO.out c18
          clear HGO
          subst c18
          have c19b0 := eq_true c19
          have c19b1 := decide_eq_true c19
          have c19b2 : (9223372036854775807 < a0.size + y.size) = False := eq_false (Nat.not_lt.2 c19)
          have c20b0 := eq_true c20
          have c20b1 := decide_eq_true c20
          have c20b2 : (9223372036854775807 < (a0 ++ y).size + a1.size) = False := eq_false (Nat.not_lt.2 c20)
          have c20b3 := c20b2
          simp only [Vz] at c20b3
          have c25b0 : ((wrap64 (nx - (a0.size : Int))) == (y.size : Int)) = true := beq_iff_eq.mpr c25
          have c25b1 : ((wrap64 (nx - (a0.size : Int))) != (y.size : Int)) = false := bne_eq_false_iff_eq.mpr c25
          clear c25
          have HRD := za.mk hrd
          have HSM := za.mk hsm
          clear hrd hsm
          go_wp2_with (first | (go_at_call 36; (with_reducible refine (xl.calls k ((a0 ++ y) ++ a1) (a0.size : Int) l15 nx 0 _ HRD.out).mono ?_); rintro e_ w402_ ⟨v_, rfl, hr_, hb_⟩; obtain ⟨A_l, c_l, ev_⟩ := Kd.R_slice hr_; subst ev_; have n0_ := za.mk (zH BK_p.out hb_); have n1_ := za.mk (zi HB.out hb_); have n2_ := za.mk (Kd.R_lower hr_ HB.out.size); (try clear BK_p); (try clear HB); (try clear HR_l); have BK_p := n0_; have HB := n1_; have HR_l := n2_; clear n0_ n1_ n2_; (try clear hc_p_0 hc_p_1 hc_p_2 hc_p_3 hc_p_4 hc_p_5 hc_p_6 hc_p_7 hc_p_8 hc_p_9 hc_p_10 hc_p_11 hc_p_12 hc_p_13 hc_p_14 hc_p_15 hf_p_0 hf_p_1 hf_p_2 hf_p_3 hf_p_4 hf_p_5 hf_p_6 hf_p_7 hf_p_8 hf_p_9 hf_p_10 hf_p_11 hf_p_12 hf_p_13 hf_p_14 hf_p_15); (try clear hb_); (try clear hr_); obtain ⟨hc_p_0, hc_p_1, hc_p_2, hc_p_3, hc_p_4, hc_p_5, hc_p_6, hc_p_7, hc_p_8, hc_p_9, hc_p_10, hc_p_11, hc_p_12, hc_p_13, hc_p_14, hc_p_15, hf_p_0, hf_p_1, hf_p_2, hf_p_3, hf_p_4, hf_p_5, hf_p_6, hf_p_7, hf_p_8, hf_p_9, hf_p_10, hf_p_11, hf_p_12, hf_p_13, hf_p_14, hf_p_15⟩ := xg BK_p.out) | (go_at_call 37; (with_reducible refine (yD.calls k _ _ l15 _ _ l15 true _ ?side1 ?side2 ?side3 HL_l15.out HSM.out).mono ?_); (case side1 => exact (Kd.R_reads' HR_l.out).2.2); (case side2 => exact (Kd.R_reads' HR_l.out).2.1); (case side3 => exact Kd.C_below HR_l15.out HB.out); rintro e_ w403_ ⟨rfl, hd_⟩; have hb_ := hd_.below; clear hd_; have n0_ := za.mk (zH BK_p.out hb_); have n1_ := za.mk (Kd.R_below HR_l.out hb_); have n2_ := za.mk (zi HB.out hb_); (try clear BK_p); (try clear HR_l); (try clear HB); have BK_p := n0_; have HR_l := n1_; have HB := n2_; clear n0_ n1_ n2_; (try clear hc_p_0 hc_p_1 hc_p_2 hc_p_3 hc_p_4 hc_p_5 hc_p_6 hc_p_7 hc_p_8 hc_p_9 hc_p_10 hc_p_11 hc_p_12 hc_p_13 hc_p_14 hc_p_15 hf_p_0 hf_p_1 hf_p_2 hf_p_3 hf_p_4 hf_p_5 hf_p_6 hf_p_7 hf_p_8 hf_p_9 hf_p_10 hf_p_11 hf_p_12 hf_p_13 hf_p_14 hf_p_15); (try clear hb_); obtain ⟨hc_p_0, hc_p_1, hc_p_2, hc_p_3, hc_p_4, hc_p_5, hc_p_6, hc_p_7, hc_p_8, hc_p_9, hc_p_10, hc_p_11, hc_p_12, hc_p_13, hc_p_14, hc_p_15, hf_p_0, hf_p_1, hf_p_2, hf_p_3, hf_p_4, hf_p_5, hf_p_6, hf_p_7, hf_p_8, hf_p_9, hf_p_10, hf_p_11, hf_p_12, hf_p_13, hf_p_14, hf_p_15⟩ := xg BK_p.out))
          go_meet
          case rel => exact ⟨BK_p, HB⟩
         ·have c18b0 : (e == 0) = false := beq_eq_false_iff_ne.mpr c18
          have c18b1 : (e != 0) = true := bne_iff_ne.mpr c18
          clear c18 HGO
          go_wp2
          go_meet
          case rel => exact ⟨BK_p, HB⟩
       case rest =>
        clear BK_p HB HGO HP
        (try clear hc_p_0 hc_p_1 hc_p_2 hc_p_3 hc_p_4 hc_p_5 hc_p_6 hc_p_7 hc_p_8 hc_p_9 hc_p_10 hc_p_11 hc_p_12 hc_p_13 hc_p_14 hc_p_15 hf_p_0 hf_p_1 hf_p_2 hf_p_3 hf_p_4 hf_p_5 hf_p_6 hf_p_7 hf_p_8 hf_p_9 hf_p_10 hf_p_11 hf_p_12 hf_p_13 hf_p_14 hf_p_15)
        obtain ⟨BK_p, HB⟩ := hcut
        obtain ⟨hc_p_0, hc_p_1, hc_p_2, hc_p_3, hc_p_4, hc_p_5, hc_p_6, hc_p_7, hc_p_8, hc_p_9, hc_p_10, hc_p_11, hc_p_12, hc_p_13, hc_p_14, hc_p_15, hf_p_0, hf_p_1, hf_p_2, hf_p_3, hf_p_4, hf_p_5, hf_p_6, hf_p_7, hf_p_8, hf_p_9, hf_p_10, hf_p_11, hf_p_12, hf_p_13, hf_p_14, hf_p_15⟩ := xg BK_p.out
        go_wp2
        go_ret
        exact ⟨rfl, HB.out⟩
theorem qU (n : Int) (h0 : -9223372036854775808 ≤ n) (h1 : n ≤ 9223372036854775807) : yv.f n = some (yo n) := by
 unfold yv.f
 rw [if_pos ⟨h0, h1⟩]
theorem Jc (n : Int) : (yo n).size = (qa 10 (zig n)).length := by
 unfold yo
 rw [strOfNums_size, qy, List.length_map]
def qL (s : ByteArray) : ByteArray × Int := if 4096 < s.size then (⟨#[]⟩, 4) else (yo (s.size : Int) ++ s, 0)
def qr {α : Type} (T : α → ByteArray × Int) : List α → ByteArray → ByteArray × Int
 | [], acc => (acc, 0)
 | x :: l, acc => if (T x).2 = 0 then qr T l (acc ++ (T x).1) else (⟨#[]⟩, (T x).2)
theorem qs (s : ByteArray) : (qL s).1.size ≤ 4106 := by
 unfold qL
 split
 ·exact Nat.zero_le _
 ·have := yk (s.size : Int)
  rw [Vz]
  omega
theorem YO (s : ByteArray) (hs : s.size ≤ 140737488351232) : xp.f s = some (qL s) := by
 unfold xp.f qL
 by_cases h : 4096 < s.size
 ·rw [if_pos (by omega), if_pos h]
 ·have := yk (s.size : Int)
  rw [if_neg (by omega), if_neg h, zN (qU _ (by omega) (by omega)), if_pos (by omega)]
theorem ZK {α : Type} (T : α → Option (ByteArray × Int)) (R : α → ByteArray × Int) (M : Nat) (hM : M ≤ 100000) (l : List α) : ∀ acc : List Int, (∀ x ∈ l, T x = some (R x) ∧ (R x).1.size ≤ M) → acc.length + M * l.length ≤ 140737488355328 →
  qJ T l acc = some (qr R l (strOfNums acc)) := by
 induction l with
 | nil => intro acc _ _; rfl
 | cons x l ih =>
  intro acc h hb
  obtain ⟨h1, h2⟩ := h x List.mem_cons_self
  rw [List.length_cons, Nat.mul_succ] at hb
  rw [qJ, zN h1, qr]
  by_cases he : (R x).2 = 0
  ·rw [if_pos he, if_pos he, if_pos (by omega), ih _ (fun y hy => h y (List.mem_cons_of_mem _ hy)) (by rw [VB, xh]; omega), Zx, qn]
  ·rw [if_neg he, if_neg he]
def xn (l : List Int) : ByteArray × Int := if 256 < l.length then (⟨#[]⟩, 4) else qr (fun n => (yo n, 0)) l (yo (l.length : Int))
def qR (l : List ByteArray) : ByteArray × Int := if 256 < l.length then (⟨#[]⟩, 4) else qr qL l (yo (l.length : Int))
theorem Z5 {n : Int} (h : (Lit.int .i64 n).wf = true) : -9223372036854775808 ≤ n ∧ n ≤ 9223372036854775807 := by
 have m1 : IntKind.i64.min = -9223372036854775808 := rfl
 have m2 : IntKind.i64.max = 9223372036854775807 := rfl
 simp only [Lit.wf, Bool.and_eq_true, decide_eq_true_eq] at h
 omega
theorem Xi (l : List Int) (h : ∀ n ∈ l, (Lit.int .i64 n).wf = true) : xH.f l = some (xn l) := by
 unfold xH.f xn
 by_cases hl : 256 < l.length
 ·rw [if_pos hl, if_pos hl]
 ·have := yk (l.length : Int)
  rw [if_neg hl, if_neg hl, zN (qU _ (by omega) (by omega)), ZK _ (fun n => (yo n, (0 : Int))) 10 (by omega) l _ (fun n hn => ?_) (by rw [xh]; omega), qn]
  have hb := Z5 (h n hn)
  exact ⟨by simp only [qU n hb.1 hb.2, Option.map_some], yk n⟩
theorem Qc (l : List ByteArray) (h : ∀ s ∈ l, s.size ≤ 140737488351232) : qb.f l = some (qR l) := by
 unfold qb.f qR
 by_cases hl : 256 < l.length
 ·rw [if_pos hl, if_pos hl]
 ·have := yk (l.length : Int)
  rw [if_neg hl, if_neg hl, zN (qU _ (by omega) (by omega)), ZK _ qL 4106 (by omega) l _ (fun s hs => ⟨YO s (h s hs), qs s⟩) (by rw [xh]; omega), qn]
def xE : List Nat → Nat → Nat × Nat × Int
 | [], _ => (0, 0, 5)
 | c :: l, k => if k = 9 ∧ 1 < c then (0, 0, 6) else if 128 ≤ c then (if (xE l (k + 1)).2.2 = 0 then (c - 128 + 128 * (xE l (k + 1)).1, (xE l (k + 1)).2.1 + 1, 0) else (0, 0, (xE l (k + 1)).2.2)) else if c = 0 ∧ 0 < k then (0, 0, 6) else (c, 1, 0)
def unz (u : Nat) : Int := if u % 2 = 1 then -((u / 2 : Nat) : Int) - 1 else ((u / 2 : Nat) : Int)
def jo (a : Int) (lo k : Nat) (r : Nat × Nat × Int) : Int × Int × Int := if r.2.2 = 0 then (unz (lo + 128 ^ k * r.1), a + (k : Int) + (r.2.1 : Int), 0) else (0, 0, r.2.2)
def xy (s : ByteArray) (a : Int) : Int × Int × Int := if a < 0 ∨ (s.size : Int) < a then (0, 0, 3) else jo a 0 0 (xE ((bl s).drop a.toNat) 0)
theorem QA (a : Int) (lo k c : Nat) (l : List Nat) (hk : k ≠ 9) (hc : 128 ≤ c) : jo a lo k (xE (c :: l) k) = jo a (lo + (c - 128) * 128 ^ k) (k + 1) (xE l (k + 1)) := by
 rw [xE, if_neg (by omega), if_pos hc]
 generalize xE l (k + 1) = r
 unfold jo
 by_cases h : r.2.2 = 0
 ·rw [if_pos h, if_pos h, if_pos rfl]
  have e1 : lo + 128 ^ k * (c - 128 + 128 * r.1) = lo + (c - 128) * 128 ^ k + 128 ^ (k + 1) * r.1 := by
   rw [Nat.mul_add, Nat.pow_succ, Nat.mul_comm (128 ^ k) (c - 128), ← Nat.mul_assoc, Nat.add_assoc]
  have e2 : a + (k : Int) + ((r.2.1 + 1 : Nat) : Int) = a + ((k + 1 : Nat) : Int) + (r.2.1 : Int) := by omega
  show (unz (lo + 128 ^ k * (c - 128 + 128 * r.1)), a + (k : Int) + ((r.2.1 + 1 : Nat) : Int), (0 : Int)) = _
  rw [e1, e2]
 ·rw [if_neg h, if_neg h, if_neg h]
theorem Xy (k : Nat) : 128 ^ k = 2 ^ (7 * k) := by rw [Nat.pow_mul]
theorem YI (n : Int) (h0 : 0 ≤ n) (h1 : n < 2 ^ 64) : IntKind.u64.wrap n = n := by rw [qX]; omega
theorem Vm (a b : Nat) (ha : a < 18446744073709551616) (hb : b < 18446744073709551616) : Go.bits .or .u64 (a : Int) (b : Int) = ((a ||| b : Nat) : Int) :=
 (bits_nat .u64 64 (by decide) YI a b ha hb).2
theorem Vp (c : Nat) (hc : c < 256) : Go.bits .and .u8 (c : Int) 127 = ((c % 128 : Nat) : Int) := by
 have h := bits_mask .u8 8 (by decide) wraps_u8 7 (by decide) (c : Int) (by omega) (by omega)
 have e : ((2 : Int) ^ 7 - 1) = 127 := by decide
 have e2 : ((2 : Int) ^ 7) = 128 := by decide
 rw [e, e2] at h
 rw [h]
 omega
theorem X8 (lo c k : Nat) (hlo : lo < 128 ^ k) (hc : c < 256) (hk : k ≤ 9) (h9 : k = 9 → c % 128 ≤ 1) :
  Go.bits .or .u64 (lo : Int) (shl .u64 (IntKind.u64.wrap (Go.bits .and .u8 (c : Int) 127)) (wrap64 (7 * (k : Int)))) = ((lo + (c % 128) * 128 ^ k : Nat) : Int) := by
 have hx : c % 128 < 128 := Nat.mod_lt _ (by decide)
 have hp : 128 ^ k ≤ 128 ^ 9 := Nat.pow_le_pow_right (by decide) hk
 have e9 : (128 : Nat) ^ 9 = 9223372036854775808 := by decide
 have hb : (c % 128) * 128 ^ k < 18446744073709551616 := by
  by_cases h : k = 9
  ·subst h
   have := h9 rfl
   rw [e9]
   omega
  ·have h8 : 128 ^ k ≤ 128 ^ 8 := Nat.pow_le_pow_right (by decide) (by omega)
   have e8 : (128 : Nat) ^ 8 = 72057594037927936 := by decide
   have : (c % 128) * 128 ^ k ≤ 127 * 128 ^ 8 := Nat.mul_le_mul (by omega) h8
   rw [e8] at this
   omega
 have hl : lo < 18446744073709551616 := by omega
 have e1 : wrap64 (7 * (k : Int)) = ((7 * k : Nat) : Int) := by rw [xR (by omega) (by omega)]; omega
 have e2 : shl .u64 (IntKind.u64.wrap ((c % 128 : Nat) : Int)) ((7 * k : Nat) : Int) = ((c % 128 * 128 ^ k : Nat) : Int) := by
  have w1 : IntKind.u64.wrap ((c % 128 : Nat) : Int) = ((c % 128 : Nat) : Int) := by rw [qX]; omega
  have hb64 : IntKind.u64.bits = 64 := rfl
  have m1 : min ((7 * k : Nat) : Int).toNat IntKind.u64.bits = 7 * k := by rw [hb64, Int.toNat_natCast]; omega
  have c1 : ((c % 128 : Nat) : Int) * 2 ^ (7 * k) = ((c % 128 * 128 ^ k : Nat) : Int) := by
   rw [Xy]
   simp
  rw [shl, w1, m1, c1, qX]
  omega
 rw [Vp c hc, e1, e2, Vm lo _ hl hb]
 have h3 : lo ||| c % 128 * 128 ^ k = lo + c % 128 * 128 ^ k := by
  have := Nat.two_pow_add_eq_or_of_lt (i := 7 * k) (b := lo) (by rw [← Xy]; exact hlo) (c % 128)
  rw [← Xy, Nat.mul_comm] at this
  rw [Nat.or_comm, ← this, Nat.add_comm]
 rw [h3]
theorem Vd (u : Nat) (h : u < 9223372036854775808) : Go.bits .xor .i64 (-1) (u : Int) = -(u : Int) - 1 := by
 have e : BitVec.ofInt 64 (-1) = BitVec.allOnes 64 := by decide
 have e2 : (BitVec.ofInt 64 (-1) ^^^ BitVec.ofInt 64 (u : Int)).toNat = 18446744073709551615 - u := by
  rw [e, BitVec.allOnes_xor, BitVec.toNat_not, BitVec.ofInt_natCast, BitVec.toNat_ofNat]
  omega
 show IntKind.i64.wrap ((BitVec.ofInt 64 (-1) ^^^ BitVec.ofInt 64 (u : Int)).toNat : Int) = _
 rw [e2, IntKind.wrap_i64]
 omega
theorem Jm (u : Nat) (hu : u < 18446744073709551616) : Go.bits .and .u64 (u : Int) 1 = ((u % 2 : Nat) : Int) := by
 have h := bits_mask .u64 64 (by decide) YI 1 (by decide) (u : Int) (by omega) (by omega)
 simpa using h
theorem Vf (v : Nat) (h : v % 2 = 1) : unz v = -((v / 2 : Nat) : Int) - 1 := by rw [unz, if_pos h]
theorem JA (v : Nat) (h : ¬ v % 2 = 1) : unz v = ((v / 2 : Nat) : Int) := by rw [unz, if_neg h]
theorem Q0 (v : Nat) (h : v < 18446744073709551616) : wrap64 ((v : Int) / 2) = ((v / 2 : Nat) : Int) := by
 rw [xR (by omega) (by omega)]
 omega
theorem vj3 (a : Int) (h0 : 0 ≤ a) (h1 : a ≤ 140737488351232) (v i : Nat) (hv : v < 18446744073709551616) (hi : i ≤ 9) (k : Nat) : zk.j3 (k + 1) a (v : Int) (i : Int) false = some (unz v, a + (i : Int) + 1, 0) := by
 rw [zk.j3, if_neg (by decide), Jm v hv, Q0 v hv, xR (i := a + (i : Int)) (by omega) (by omega), xR (i := a + (i : Int) + 1) (by omega) (by omega)]
 by_cases h : v % 2 = 1
 ·rw [if_pos (by omega), Vd _ (by omega), Vf v h]
 ·rw [if_neg (by omega), JA v h]
theorem Vc (a v i : Int) (k : Nat) : zk.j3 (k + 1) a v i true = some (0, 0, 6) := by
 rw [zk.j3, if_pos rfl]
theorem vF (a : Int) (lo k : Nat) (e : Int) (he : e ≠ 0) (r : Nat × Nat × Int) (hr : r = (0, 0, e)) : jo a lo k r = (0, 0, e) := by
 rw [hr, jo, if_neg he]
theorem YP (a : Int) (lo k c : Nat) : jo a lo k (c, 1, 0) = (unz (lo + c * 128 ^ k), a + (k : Int) + 1, 0) := by
 rw [jo, if_pos rfl, Nat.mul_comm c]
 rfl
theorem XC (lo c k : Nat) (hlo : lo < 128 ^ k) (hc : c < 128) : lo + c * 128 ^ k < 128 ^ (k + 1) := by
 have : c * 128 ^ k ≤ 127 * 128 ^ k := Nat.mul_le_mul_right _ (by omega)
 rw [Nat.pow_succ]
 omega
theorem XT (lo c k : Nat) (hlo : lo < 128 ^ k) (hc : c < 128) (hk : k ≤ 9) (h9 : k = 9 → c ≤ 1) : lo + c * 128 ^ k < 18446744073709551616 := by
 by_cases h : k = 9
 ·subst h
  have e9 : (128 : Nat) ^ 9 = 9223372036854775808 := by decide
  have := h9 rfl
  rw [e9] at hlo ⊢
  omega
 ·have h1 := XC lo c k hlo hc
  have h2 : 128 ^ (k + 1) ≤ 128 ^ 9 := Nat.pow_le_pow_right (by decide) (by omega)
  have e9 : (128 : Nat) ^ 9 = 9223372036854775808 := by decide
  omega
theorem vj2 (s : ByteArray) (p lo i c k : Nat) (hp : p ≤ 140737488351232) (hi : i ≤ 9) (hlo : lo < 128 ^ i) (hc : c < 256) (h9 : i = 9 → c ≤ 1) (l : List Nat)
  (go : 128 ≤ c → i ≠ 9 → zk.l0 (k + 1) s (p : Int) ((lo + (c - 128) * 128 ^ i : Nat) : Int) ((i + 1 : Nat) : Int) = some (jo (p : Int) (lo + (c - 128) * 128 ^ i) (i + 1) (xE l (i + 1)))) :
  zk.j2 (k + 2) s (p : Int) (lo : Int) (i : Int) (c : Int) false = some (jo (p : Int) lo i (xE (c :: l) i)) := by
 rw [zk.j2, if_neg (by decide), X8 lo c i hlo hc hi (fun h => by have := h9 h; omega), xR (i := 7 * (i : Int)) (by omega) (by omega), if_pos (by omega)]
 by_cases h : 128 ≤ c
 ·have e : c % 128 = c - 128 := by omega
  have hi9 : i ≠ 9 := fun h' => by have := h9 h'; omega
  rw [if_pos (by omega), yU (by omega) (by omega), e, QA _ _ _ _ _ hi9 h]
  have := go h hi9
  rw [← this]
  rfl
 ·have e : c % 128 = c := by omega
  rw [if_neg (by omega), e]
  have hs : xE (c :: l) i = if c = 0 ∧ 0 < i then (0, 0, 6) else (c, 1, 0) := by
   rw [xE, if_neg (fun h' => by have := h9 h'.1; omega), if_neg h]
  by_cases h0 : c = 0
  ·rw [if_pos (by omega)]
   by_cases hi0 : 0 < i
   ·have hd : decide ((i : Int) > 0) = true := decide_eq_true (by omega)
    rw [hd, Vc, vF _ _ _ 6 (by decide) _ (by rw [hs, if_pos ⟨h0, hi0⟩])]
   ·have hd : decide ((i : Int) > 0) = false := decide_eq_false (by omega)
    rw [hd, vj3 _ (by omega) (by omega) _ _ (XT lo c i hlo (by omega) hi h9) hi, hs, if_neg (fun h' => hi0 h'.2), YP]
  ·rw [if_neg (by omega), vj3 _ (by omega) (by omega) _ _ (XT lo c i hlo (by omega) hi h9) hi, hs, if_neg (fun h' => h0 h'.1), YP]
theorem vl0 (s : ByteArray) (hs : s.size ≤ 140737488351232) (p : Nat) (hp : p ≤ s.size) (e : Nat) : ∀ (i lo k : Nat), i + e = 9 → lo < 128 ^ i → 2 * e + 10 ≤ k → zk.l0 k s (p : Int) (lo : Int) (i : Int) = some (jo (p : Int) lo i (xE ((bl s).drop (p + i)) i)) := by
 induction e with
 | zero =>
  intro i lo k hi hlo hk
  obtain ⟨k, rfl⟩ : ∃ k', k = k' + 3 := ⟨k - 3, by omega⟩
  have hi9 : i = 9 := by omega
  rw [zk.l0, xR (i := (p : Int) + (i : Int)) (by omega) (by omega)]
  by_cases h : p + i < s.size
  ·rw [if_pos (by omega), if_pos (by omega), if_pos (by omega)]
   have hb : bt s ((p : Int) + (i : Int)) = _ := Y9 s (p + i) h
   rw [hb, Yw s (p + i) h]
   have hc : (bl s)[p + i]'(by rw [yY]; exact h) < 256 := QP s _ _
   generalize (bl s)[p + i]'(by rw [yY]; exact h) = c at hc ⊢
   by_cases h1 : 1 < c
   ·have hd : decide ((c : Int) > 1) = true := decide_eq_true (by omega)
    rw [hd, zk.j2, if_pos rfl, vF _ _ _ 6 (by decide) _ (by rw [xE, if_pos ⟨hi9, h1⟩])]
   ·have hd : decide ((c : Int) > 1) = false := decide_eq_false (by omega)
    rw [hd]
    exact vj2 s p lo i c k (by omega) (by omega) hlo hc (fun _ => by omega) _ (fun h' _ => absurd h' (by omega))
  ·rw [if_neg (by omega), List.drop_eq_nil_of_le (by rw [yY]; omega), vF _ _ _ 5 (by decide) _ (by rw [xE])]
 | succ e ih =>
  intro i lo k hi hlo hk
  obtain ⟨k, rfl⟩ : ∃ k', k = k' + 3 := ⟨k - 3, by omega⟩
  rw [zk.l0, xR (i := (p : Int) + (i : Int)) (by omega) (by omega)]
  by_cases h : p + i < s.size
  ·rw [if_pos (by omega), if_pos (by omega), if_neg (by omega)]
   have hb : bt s ((p : Int) + (i : Int)) = _ := Y9 s (p + i) h
   rw [hb, Yw s (p + i) h]
   have hc : (bl s)[p + i]'(by rw [yY]; exact h) < 256 := QP s _ _
   generalize (bl s)[p + i]'(by rw [yY]; exact h) = c at hc ⊢
   refine vj2 s p lo i c k (by omega) (by omega) hlo hc (fun h' => by omega) _ (fun h1 h2 => ?_)
   rw [ih (i + 1) _ (k + 1) (by omega) (XC lo (c - 128) i hlo (by omega)) (by omega)]
   rfl
  ·rw [if_neg (by omega), List.drop_eq_nil_of_le (by rw [yY]; omega), vF _ _ _ 5 (by decide) _ (by rw [xE])]
theorem vV (s : ByteArray) (hs : s.size ≤ 140737488351232) (a : Int) (k : Nat) (hk : 40 ≤ k) : zk.f k s a = some (xy s a) := by
 obtain ⟨k, rfl⟩ : ∃ k', k = k' + 1 := ⟨k - 1, by omega⟩
 unfold zk.f xy
 by_cases h0 : a < 0
 ·rw [if_pos h0, if_pos (Or.inl h0), zk.j0, if_pos rfl]
 ·rw [if_neg h0]
  by_cases h1 : (s.size : Int) < a
  ·have hd : decide (a > (s.size : Int)) = true := decide_eq_true h1
   rw [hd, if_pos (Or.inr h1), zk.j0, if_pos rfl]
  ·have hd : decide (a > (s.size : Int)) = false := decide_eq_false h1
   have hn : ¬ (a < 0 ∨ (s.size : Int) < a) := by omega
   rw [hd, if_neg hn, zk.j0, if_neg (by decide)]
   obtain ⟨p, rfl⟩ : ∃ p : Nat, a = (p : Int) := ⟨a.toNat, by omega⟩
   have := vl0 s hs p (by omega) 9 0 0 k (by omega) (by decide) (by omega)
   simpa using this
theorem J1 (l : List Nat) : ∀ k, (xE l k).2.2 = 0 → 1 ≤ (xE l k).2.1 ∧ (xE l k).2.1 ≤ l.length := by
 induction l with
 | nil => intro k h; rw [xE] at h; exact absurd h (by decide)
 | cons c l ih =>
  intro k
  rw [xE]
  split
  ·intro h; exact absurd h (by decide)
  ·split
   ·split
    ·rename_i h3
     intro h
     have := ih (k + 1) h3
     simp only [List.length_cons]
     omega
    ·rename_i h3
     intro h
     exact absurd h h3
   ·split
    ·intro h; exact absurd h (by decide)
    ·intro h
     simp only [List.length_cons]
     omega
theorem Jh (s : ByteArray) (a : Int) (h : (xy s a).2.2 = 0) : 0 ≤ a ∧ a < (xy s a).2.1 ∧ (xy s a).2.1 ≤ (s.size : Int) ∧ (xE ((bl s).drop a.toNat) 0).2.2 = 0
  ∧ xy s a = (unz (xE ((bl s).drop a.toNat) 0).1, a + ((xE ((bl s).drop a.toNat) 0).2.1 : Int), 0) := by
 unfold xy at h ⊢
 by_cases h0 : a < 0 ∨ (s.size : Int) < a
 ·rw [if_pos h0] at h; exact absurd h (by decide)
 ·rw [if_neg h0] at h ⊢
  unfold jo at h ⊢
  by_cases h1 : (xE ((bl s).drop a.toNat) 0).2.2 = 0
  ·have h2 := J1 _ _ h1
   rw [List.length_drop, yY] at h2
   rw [if_pos h1]
   refine ⟨by omega, ?_, ?_, h1, ?_⟩
   ·show a < a + ((0 : Nat) : Int) + _
    omega
   ·show a + ((0 : Nat) : Int) + _ ≤ _
    omega
   ·have e1 : 0 + 128 ^ 0 * (xE ((bl s).drop a.toNat) 0).1 = (xE ((bl s).drop a.toNat) 0).1 := by simp
    have e2 : a + ((0 : Nat) : Int) = a := by omega
    rw [e1, e2]
  ·rw [if_neg h1] at h
   exact absurd h h1
def y7 (s : ByteArray) (a m : Int) : Int × Int × Int := if (xy s a).2.2 = 0 then (if (xy s a).1 < 0 then (0, 0, 6) else (if (xy s a).1 > m then (0, 0, 4) else ((xy s a).1, (xy s a).2.1, 0))) else (0, 0, (xy s a).2.2)
theorem YL (s : ByteArray) (a m : Int) (hs : s.size ≤ 140737488351232) (hm : 0 ≤ m) (h : (y7 s a m).2.2 = 0) : 0 ≤ (y7 s a m).1 ∧ (y7 s a m).1 ≤ m ∧ 0 ≤ a ∧ a < (y7 s a m).2.1 ∧ (y7 s a m).2.1 ≤ (s.size : Int) := by
 unfold y7 at h ⊢
 by_cases h0 : (xy s a).2.2 = 0
 ·have hr := Jh s a h0
  rw [if_pos h0] at h ⊢
  by_cases h1 : (xy s a).1 < 0
  ·rw [if_pos h1] at h; exact absurd h (by decide)
  ·rw [if_neg h1] at h ⊢
   by_cases h2 : (xy s a).1 > m
   ·rw [if_pos h2] at h; exact absurd h (by decide)
   ·rw [if_neg h2]
    exact ⟨Int.not_lt.mp h1, Int.not_lt.mp h2, hr.1, hr.2.1, hr.2.2.1⟩
 ·rw [if_neg h0] at h
  exact absurd h h0
theorem Yb (s : ByteArray) (hs : s.size ≤ 140737488351232) (a m : Int) (k : Nat) (hk : 40 ≤ k) : yE.f k s a m = some (y7 s a m) := by
 unfold yE.f y7
 rw [zN (vV s hs a k hk)]
 split
 ·split
  ·rfl
  ·split <;> rfl
 ·rfl
def Yh (s : ByteArray) (a : Int) : ByteArray × Int × Int := if (y7 s a 4096).2.2 = 0 then (if (s.size : Int) < (y7 s a 4096).2.1 + (y7 s a 4096).1 then (⟨#[]⟩, 0, 5) else (s.extract (y7 s a 4096).2.1.toNat ((y7 s a 4096).2.1 + (y7 s a 4096).1).toNat, (y7 s a 4096).2.1 + (y7 s a 4096).1, 0)) else (⟨#[]⟩, 0, (y7 s a 4096).2.2)
theorem YY (s : ByteArray) (hs : s.size ≤ 140737488351232) (a : Int) (k : Nat) (hk : 50 ≤ k) : yO.f k s a = some (Yh s a) := by
 unfold yO.f Yh
 rw [zN (Yb s hs a 4096 k (by omega))]
 by_cases h : (y7 s a 4096).2.2 = 0
 ·obtain ⟨h1, h2, h3, h4, h5⟩ := YL s a 4096 hs (by omega) h
  rw [if_pos h, if_pos h]
  generalize y7 s a 4096 = c at h1 h2 h4 h5 ⊢
  rw [xR (i := (s.size : Int) - c.2.1) (by omega) (by omega), xR (i := c.2.1 + c.1) (by omega) (by omega)]
  by_cases h6 : (s.size : Int) < c.2.1 + c.1
  ·rw [if_pos (by omega), if_pos h6]
  ·rw [if_neg (by omega), if_neg h6, if_pos (by omega), if_pos (by omega), if_pos (by omega)]
 ·rw [if_neg h, if_neg h]
def vG {α : Type} (R : Int → α × Int × Int) : Nat → Int → List α → List α × Int × Int
 | 0, a, acc => (acc, a, 0)
 | d + 1, a, acc => if (R a).2.2 = 0 then vG R d (R a).2.1 (acc ++ [(R a).1]) else ([], 0, (R a).2.2)
def vz {α : Type} (R : Int → α × Int × Int) (s : ByteArray) (a : Int) : List α × Int × Int := if (y7 s a 256).2.2 = 0 then vG R (y7 s a 256).1.toNat (y7 s a 256).2.1 [] else ([], 0, (y7 s a 256).2.2)
theorem rnums (s : ByteArray) (hs : s.size ≤ 140737488351232) (n : Nat) (hn : n ≤ 256) (d : Nat) : ∀ (k i : Nat) (a : Int) (acc : List Int), i + d = n → acc.length = i → d + 60 ≤ k → zA.l0 k s a acc (n : Int) (i : Int) = some (vG (xy s) d a acc) := by
 induction d with
 | zero =>
  intro k i a acc hi hl hk
  obtain ⟨k, rfl⟩ : ∃ k', k = k' + 1 := ⟨k - 1, by omega⟩
  rw [zA.l0, if_neg (by omega), vG]
 | succ d ih =>
  intro k i a acc hi hl hk
  obtain ⟨k, rfl⟩ : ∃ k', k = k' + 1 := ⟨k - 1, by omega⟩
  rw [zA.l0, if_pos (by omega), zN (vV s hs a k (by omega)), vG]
  by_cases h : (xy s a).2.2 = 0
  ·rw [if_pos h, if_pos h, if_pos (by omega), yU (by omega) (by omega)]
   exact ih k (i + 1) _ _ (by omega) (by simp [hl]) (by omega)
  ·rw [if_neg h, if_neg h]
theorem Qi (s : ByteArray) (hs : s.size ≤ 140737488351232) (a : Int) (k : Nat) (hk : 400 ≤ k) : zA.f k s a = some (vz (xy s) s a) := by
 unfold zA.f vz
 rw [zN (Yb s hs a 256 k (by omega))]
 by_cases h : (y7 s a 256).2.2 = 0
 ·obtain ⟨h1, h2, h3, h4, h5⟩ := YL s a 256 hs (by omega) h
  rw [if_pos h, if_pos h]
  have e : (y7 s a 256).1 = (((y7 s a 256).1.toNat : Nat) : Int) := by omega
  have := rnums s hs (y7 s a 256).1.toNat (by omega) (y7 s a 256).1.toNat k 0 (y7 s a 256).2.1 [] (by omega) rfl (by omega)
  rw [← this]
  first | (rw [← e]; rfl) | rfl
 ·rw [if_neg h, if_neg h]
theorem Y3 (s : ByteArray) (hs : s.size ≤ 140737488351232) (a : Int) (k : Nat) (hk : 400 ≤ k) : yS.f k s a = some (vz (xy s) s a) := by
 unfold yS.f
 rw [zN (Qi s hs a k hk)]
theorem J9 (n : Int) : unz (zig n) = n := by
 unfold unz zig
 split <;> split <;> omega
theorem QW (f : Nat) : ∀ (k u : Nat) (rest : List Nat), f + k = 10 → 1 ≤ f → 128 ^ k * u < 18446744073709551616 → (0 < k → 0 < u) → xE (qa f u ++ rest) k = (u, (qa f u).length, 0) := by
 induction f with
 | zero => intro k u rest _ h; exact absurd h (by decide)
 | succ f ih =>
  intro k u rest hf _ hu h0
  have e9 : (128 : Nat) ^ 9 = 9223372036854775808 := by decide
  by_cases h : u < 128
  ·rw [j8 f u h, List.singleton_append, xE, if_neg ?_, if_neg (by omega), if_neg (by omega)]
   ·rfl
   ·rintro ⟨hk, h1⟩
    subst hk
    rw [e9] at hu
    omega
  ·have hk9 : k ≠ 9 := by
    rintro rfl
    rw [e9] at hu
    omega
   have hk10 : k ≤ 8 := by
    have : k ≠ 10 := by
     rintro rfl
     omega
    omega
   have hm : 128 ^ (k + 1) * (u / 128) ≤ 128 ^ k * u := by
    rw [Nat.pow_succ, Nat.mul_assoc]
    exact Nat.mul_le_mul_left _ (by omega)
   have hi := ih (k + 1) (u / 128) rest (by omega) (by omega) (by omega) (fun _ => by omega)
   rw [vl f u (by omega), List.cons_append, xE, if_neg (fun h' => hk9 h'.1), if_pos (by omega), hi]
   have e : u % 128 + 128 - 128 + 128 * (u / 128) = u := by omega
   rw [if_pos rfl, List.length_cons]
   show (u % 128 + 128 - 128 + 128 * (u / 128), (qa f (u / 128)).length + 1, (0 : Int)) = _
   rw [e]
theorem Ve (f : Nat) : ∀ u, ∀ c ∈ qa f u, c < 256 := by
 induction f with
 | zero => intro u c h; simp [qa] at h
 | succ f ih =>
  intro u c h
  by_cases hu : u < 128
  ·rw [j8 f u hu, List.mem_singleton] at h
   omega
  ·rw [vl f u (by omega), List.mem_cons] at h
   rcases h with rfl | h
   ·omega
   ·exact ih _ c h
theorem Jg (l : List Nat) : (qy l).map Int.toNat = l := by
 rw [qy, List.map_map]
 have : (Int.toNat ∘ fun (n : Nat) => (n : Int)) = id := by
  funext n
  rfl
 rw [this, List.map_id]
theorem J0 (n : Int) : bl (yo n) = qa 10 (zig n) := by
 rw [yo, X3 _ (fun x hx => ?_), Jg]
 obtain ⟨m, hm, rfl⟩ := List.mem_map.mp hx
 have := Ve _ _ m hm
 omega
def At (s : ByteArray) (p : Nat) (x : ByteArray) : Prop := p ≤ s.size ∧ ∃ rest, (bl s).drop p = bl x ++ rest
theorem At.left {s : ByteArray} {p : Nat} {x y : ByteArray} (h : At s p (x ++ y)) : At s p x := by
 obtain ⟨h0, r, h⟩ := h
 exact ⟨h0, bl y ++ r, by rw [h, qi, List.append_assoc]⟩
theorem At.le {s : ByteArray} {p : Nat} {x : ByteArray} (h : At s p x) : p + x.size ≤ s.size := by
 obtain ⟨h0, r, h⟩ := h
 have := congrArg List.length h
 rw [List.length_drop, VB, yY, yY] at this
 omega
theorem At.right {s : ByteArray} {p : Nat} {x y : ByteArray} (h : At s p (x ++ y)) : At s (p + x.size) y := by
 have h1 := h.left.le
 obtain ⟨h0, r, h⟩ := h
 refine ⟨h1, r, ?_⟩
 rw [← List.drop_drop, h, qi, List.append_assoc, ← yY x, List.drop_left]
theorem At.mid (a x b : ByteArray) : At ((a ++ x) ++ b) a.size x := by
 refine ⟨by rw [Vz, Vz]; omega, bl b, ?_⟩
 rw [qi, qi, List.append_assoc, ← yY a, List.drop_left]
theorem At.cut {s : ByteArray} {p : Nat} {x : ByteArray} (h : At s p x) : s.extract p (p + x.size) = x := by
 obtain ⟨h0, r, h⟩ := h
 apply jU
 rw [q7, List.drop_take, h, Nat.add_sub_cancel_left, ← yY x, List.take_left]
theorem ya (x y : ByteArray) : (x ++ y).size = x.size + y.size := Vz
theorem vX (s : ByteArray) (n : Int) (h0 : -9223372036854775808 ≤ n) (h1 : n ≤ 9223372036854775807) (p : Nat) (h : At s p (yo n)) : xy s (p : Int) = (n, ((p + (yo n).size : Nat) : Int), 0) := by
 obtain ⟨hp, r, h⟩ := h
 unfold xy
 rw [if_neg (by omega), Int.toNat_natCast, h, J0, QW 10 0 (zig n) r (by omega) (by omega) (by have := Q8 n h0 h1; omega) (by omega), jo, if_pos rfl]
 have e1 : 0 + 128 ^ 0 * zig n = zig n := by omega
 have e2 : (p : Int) + ((0 : Nat) : Int) + ((qa 10 (zig n)).length : Int) = ((p + (yo n).size : Nat) : Int) := by
  rw [Jc]
  omega
 show (unz (0 + 128 ^ 0 * zig n), (p : Int) + ((0 : Nat) : Int) + ((qa 10 (zig n)).length : Int), (0 : Int)) = _
 rw [e1, e2, J9]
theorem ZW (s : ByteArray) (n : Nat) (m : Int) (hm : (n : Int) ≤ m) (hn : n ≤ 4096) (p : Nat) (h : At s p (yo (n : Int))) : y7 s (p : Int) m = ((n : Int), ((p + (yo (n : Int)).size : Nat) : Int), 0) := by
 unfold y7
 rw [vX s n (by omega) (by omega) p h, if_pos rfl]
 show (if (n : Int) < 0 then ((0 : Int), (0 : Int), (6 : Int)) else if (n : Int) > m then (0, 0, 4) else ((n : Int), ((p + (yo (n : Int)).size : Nat) : Int), 0)) = _
 rw [if_neg (by omega), if_neg (by omega)]
theorem Qa (s t : ByteArray) (ht : t.size ≤ 4096) (p : Nat) (h : At s p (yo (t.size : Int) ++ t)) : Yh s (p : Int) = (t, ((p + (yo (t.size : Int) ++ t).size : Nat) : Int), 0) := by
 unfold Yh
 have hr := h.right
 have hc := hr.cut
 have hle := hr.le
 rw [ZW s t.size 4096 (by omega) (by omega) p h.left, if_pos rfl, ya]
 show (if (s.size : Int) < ((p + (yo (t.size : Int)).size : Nat) : Int) + (t.size : Int) then ((⟨#[]⟩ : ByteArray), (0 : Int), (5 : Int)) else (s.extract ((p + (yo (t.size : Int)).size : Nat) : Int).toNat (((p + (yo (t.size : Int)).size : Nat) : Int) + (t.size : Int)).toNat, ((p + (yo (t.size : Int)).size : Nat) : Int) + (t.size : Int), 0)) = _
 generalize (yo (t.size : Int)).size = m at hc hle ⊢
 have e : (((p + m : Nat) : Int) + (t.size : Int)) = ((p + m + t.size : Nat) : Int) := by omega
 have e2 : p + (m + t.size) = p + m + t.size := by omega
 rw [if_neg (by omega), e, Int.toNat_natCast, Int.toNat_natCast, hc, e2]
def qE {α : Type} (T : α → ByteArray × Int) : List α → ByteArray
 | [] => ⟨#[]⟩
 | x :: l => (T x).1 ++ qE T l
theorem xF (a b c : ByteArray) : a ++ b ++ c = a ++ (b ++ c) := jU (by simp only [qi, List.append_assoc])
theorem ji (a : ByteArray) : a ++ (⟨#[]⟩ : ByteArray) = a := jU (by rw [qi]; exact List.append_nil _)
theorem ZA {α : Type} (T : α → ByteArray × Int) (l : List α) : ∀ acc, (qr T l acc).2 = 0 → (∀ x ∈ l, (T x).2 = 0) ∧ (qr T l acc).1 = acc ++ qE T l := by
 induction l with
 | nil => intro acc _; exact ⟨fun x hx => absurd hx (List.not_mem_nil), by rw [qr, qE, ji]⟩
 | cons x l ih =>
  intro acc
  rw [qr]
  by_cases h : (T x).2 = 0
  ·rw [if_pos h]
   intro h2
   obtain ⟨i1, i2⟩ := ih _ h2
   refine ⟨fun y hy => ?_, by rw [i2, qE, xF]⟩
   rcases List.mem_cons.mp hy with rfl | hy
   ·exact h
   ·exact i1 y hy
  ·rw [if_neg h]
   intro h2
   exact absurd h2 h
theorem vT {α : Type} (T : α → ByteArray × Int) (l : List α) : ∀ acc, (∀ x ∈ l, (T x).2 = 0) → qr T l acc = (acc ++ qE T l, 0) := by
 induction l with
 | nil => intro acc _; rw [qr, qE, ji]
 | cons x l ih =>
  intro acc h
  rw [qr, if_pos (h x (List.mem_cons_self ..)), ih _ (fun y hy => h y (List.mem_cons_of_mem _ hy)), qE, xF]
theorem Qf {α : Type} (s : ByteArray) (R : Int → α × Int × Int) (T : α → ByteArray × Int) (l : List α) : ∀ (p : Nat) (acc : List α), (∀ x ∈ l, ∀ q : Nat, At s q (T x).1 → R (q : Int) = (x, ((q + (T x).1.size : Nat) : Int), 0)) → At s p (qE T l) →
  vG R l.length (p : Int) acc = (acc ++ l, ((p + (qE T l).size : Nat) : Int), 0) := by
 induction l with
 | nil => intro p acc _ _; rw [List.append_nil]; rfl
 | cons x l ih =>
  intro p acc h hat
  rw [qE] at hat
  have h1 := h x (List.mem_cons_self ..) p hat.left
  rw [List.length_cons, vG, h1, if_pos rfl]
  have := ih (p + (T x).1.size) (acc ++ [x]) (fun y hy => h y (List.mem_cons_of_mem _ hy)) hat.right
  rw [qE, ya, ← Nat.add_assoc]
  rw [List.append_assoc] at this
  exact this
theorem Qb {α : Type} (s : ByteArray) (R : Int → α × Int × Int) (T : α → ByteArray × Int) (l : List α) (hl : l.length ≤ 256) (p : Nat) (h : ∀ x ∈ l, ∀ q : Nat, At s q (T x).1 → R (q : Int) = (x, ((q + (T x).1.size : Nat) : Int), 0)) (hat : At s p (yo (l.length : Int) ++ qE T l)) :
  vz R s (p : Int) = (l, ((p + (yo (l.length : Int) ++ qE T l).size : Nat) : Int), 0) := by
 unfold vz
 rw [ZW s l.length 256 (by omega) (by omega) p hat.left, if_pos rfl]
 have := Qf s R T l (p + (yo (l.length : Int)).size) [] h hat.right
 rw [ya, ← Nat.add_assoc]
 exact this
theorem XD (s : ByteArray) (l : List Int) (hw : ∀ n ∈ l, (Lit.int .i64 n).wf = true) (p : Nat) (h : (xn l).2 = 0) (hat : At s p (xn l).1) : vz (xy s) s (p : Int) = (l, ((p + (xn l).1.size : Nat) : Int), 0) := by
 unfold xn at h hat ⊢
 by_cases hl : 256 < l.length
 ·rw [if_pos hl] at h; exact absurd h (by decide)
 ·rw [if_neg hl] at h hat ⊢
  have h2 := (ZA _ l _ h).2
  rw [h2] at hat ⊢
  refine Qb s (xy s) (fun n => (yo n, 0)) l (by omega) p (fun x hx q hq => ?_) hat
  have hb := Z5 (hw x hx)
  exact vX s x hb.1 hb.2 q hq
theorem Ju (s : ByteArray) (a b c : Nat) (h1 : a ≤ b) (h2 : b ≤ c) (h3 : c ≤ s.size) : s.extract a b ++ s.extract b c = s.extract a c := by
 apply jU
 rw [qi, q7, q7, q7]
 have hl : (bl s).length = s.size := yY s
 generalize bl s = l at hl ⊢
 have e1 : l.take b = (l.take c).take b := by rw [List.take_take, Nat.min_eq_left h2]
 rw [e1]
 have hm : (l.take c).length = c := by rw [List.length_take]; omega
 generalize l.take c = m at hm ⊢
 have e2 : m = m.take b ++ m.drop b := (List.take_append_drop b m).symm
 have e3 : m.drop a = (m.take b ++ m.drop b).drop a := by rw [List.take_append_drop]
 rw [e3, List.drop_append_of_le_length (by rw [List.length_take]; omega)]
theorem Zc (n : Int) (h0 : -9223372036854775808 ≤ n) (h1 : n ≤ 9223372036854775807) : (Lit.int .i64 n).wf = true := by
 have m1 : IntKind.i64.min = -9223372036854775808 := rfl
 have m2 : IntKind.i64.max = 9223372036854775807 := rfl
 simp only [Lit.wf, Bool.and_eq_true, decide_eq_true_eq]
 omega
theorem vN {α : Type} (T : α → ByteArray × Int) (M : Nat) (l : List α) : (∀ x ∈ l, (T x).1.size ≤ M) → (qE T l).size ≤ M * l.length := by
 induction l with
 | nil => intro _; exact Nat.zero_le _
 | cons x l ih =>
  intro h
  have h1 := h x (List.mem_cons_self ..)
  have h2 := ih (fun y hy => h y (List.mem_cons_of_mem _ hy))
  rw [qE, ya, List.length_cons, Nat.mul_succ]
  omega
theorem YS (l : List Int) : (xn l).2 = 0 → (xn l).1.size ≤ 10000000 := by
 unfold xn
 by_cases hl : 256 < l.length
 ·rw [if_pos hl]; intro h; exact absurd h (by decide)
 ·rw [if_neg hl]
  intro h
  rw [(ZA _ l _ h).2, ya]
  have h1 := yk (l.length : Int)
  have h2 := vN (fun n => (yo n, (0 : Int))) 10 l (fun x _ => yk x)
  omega
theorem XR (l : List ByteArray) : (qR l).2 = 0 → (qR l).1.size ≤ 10000000 := by
 unfold qR
 by_cases hl : 256 < l.length
 ·rw [if_pos hl]; intro h; exact absurd h (by decide)
 ·rw [if_neg hl]
  intro h
  rw [(ZA _ l _ h).2, ya]
  have h1 := yk (l.length : Int)
  have h2 := vN qL 4106 l (fun x _ => qs x)
  omega
theorem Je (l : List Nat) (i : Nat) (h : i < l.length) : l.getD i 0 = l[i] := by simp [List.getD, h]
theorem Jo (s : ByteArray) (i : Nat) (h : i < s.size) : bt s (i : Int) = (((bl s).getD i 0 : Nat) : Int) := by
 rw [Y9 s i h, Je _ _ (by rw [yY]; exact h)]
def jD (s : ByteArray) : Nat → Nat → List ByteArray
 | 0, a => [s.extract a s.size]
 | d + 1, a => if (bl s).getD (s.size - (d + 1)) 0 = 47 then s.extract a (s.size - (d + 1)) :: jD s d (s.size - d) else jD s d a
def qH (s : ByteArray) : List ByteArray := jD s s.size 0
theorem Jy (s : ByteArray) (d : Nat) : ∀ a, 1 ≤ (jD s d a).length ∧ (jD s d a).length ≤ d + 1 := by
 induction d with
 | zero => intro a; exact ⟨Nat.le_refl _, Nat.le_refl _⟩
 | succ d ih =>
  intro a
  rw [jD]
  split
  ·have := ih (s.size - d)
   rw [List.length_cons]
   omega
  ·have := ih a
   omega
theorem YH (s : ByteArray) : 1 ≤ (qH s).length ∧ (qH s).length ≤ s.size + 1 := Jy s s.size 0
theorem Jx (s : ByteArray) (hs : s.size ≤ 8796093022000) (d : Nat) : ∀ (k i a : Nat) (acc : List ByteArray), i + d = s.size → a ≤ i → acc.length ≤ i → d + 1 ≤ k → z9.l0 k s acc (a : Int) (s.size : Int) (i : Int) = some (acc ++ jD s d a) := by
 induction d with
 | zero =>
  intro k i a acc hi ha hl hk
  obtain ⟨k, rfl⟩ : ∃ k', k = k' + 1 := ⟨k - 1, by omega⟩
  rw [z9.l0, if_neg (by omega), if_pos (by omega), if_pos (by omega), if_pos (by omega), jD, Int.toNat_natCast]
 | succ d ih =>
  intro k i a acc hi ha hl hk
  obtain ⟨k, rfl⟩ : ∃ k', k = k' + 1 := ⟨k - 1, by omega⟩
  have e : s.size - (d + 1) = i := by omega
  have e2 : s.size - d = i + 1 := by omega
  rw [z9.l0, if_pos (by omega), if_pos (by omega), if_pos (by omega), Jo s i (by omega), jD, e, e2]
  by_cases h : (bl s).getD i 0 = 47
  ·rw [if_pos (by omega), if_pos (by omega), if_pos (by omega), if_pos (by omega), if_pos (by omega), if_pos h, yU (by omega) (by omega), Int.toNat_natCast, Int.toNat_natCast]
   have := ih k (i + 1) (i + 1) (acc ++ [s.extract a i]) (by omega) (Nat.le_refl _) (by simp; omega) (by omega)
   rw [List.append_assoc] at this
   exact this
  ·rw [if_neg (by omega), if_neg h, yU (by omega) (by omega)]
   exact ih k (i + 1) a acc (by omega) (by omega) (by omega) (by omega)
theorem ZX (s : ByteArray) (hs : s.size ≤ 8796093022000) (k : Nat) (hk : s.size + 1 ≤ k) : z9.f k s = some (qH s) := by
 have := Jx s hs s.size k 0 0 [] (by omega) (Nat.le_refl _) (Nat.le_refl _) hk
 rw [List.nil_append] at this
 exact this
def okB (c : Nat) : Bool := decide (97 ≤ c ∧ c ≤ 122 ∨ 48 ≤ c ∧ c ≤ 57 ∨ c = 45 ∨ c = 95)
def Ze (l : List Nat) : Bool := l.all okB
def qS (s : ByteArray) : Bool := decide (0 < s.size) && Ze (bl s)
theorem Jv (s : ByteArray) (hs : s.size ≤ 8796093022000) (d : Nat) : ∀ (k i : Nat), i + d = s.size → 3 * d + 3 ≤ k → zK.l0 k s (s.size : Int) (i : Int) = some (Ze ((bl s).drop i)) := by
 induction d with
 | zero =>
  intro k i hi hk
  obtain ⟨k, rfl⟩ : ∃ k', k = k' + 1 := ⟨k - 1, by omega⟩
  rw [zK.l0, if_neg (by omega), List.drop_eq_nil_of_le (by rw [yY]; omega)]
  rfl
 | succ d ih =>
  intro k i hi hk
  obtain ⟨k, rfl⟩ : ∃ k', k = k' + 3 := ⟨k - 3, by omega⟩
  have hb := Y9 s i (by omega)
  have hi1 := ih (k + 1) (i + 1) (by omega) (by omega)
  have hi2 := ih k (i + 1) (by omega) (by omega)
  rw [zK.l0, if_pos (by omega), if_pos (by omega), if_pos (by omega), hb, Yw s i (by omega)]
  generalize (bl s)[i]'(by rw [yY]; omega) = c
  have ha : Ze (c :: (bl s).drop (i + 1)) = (okB c && Ze ((bl s).drop (i + 1))) := rfl
  have hok : okB c = decide (97 ≤ c ∧ c ≤ 122 ∨ 48 ≤ c ∧ c ≤ 57 ∨ c = 45 ∨ c = 95) := rfl
  have hj2 : ∀ b : Bool, zK.j2 (k + 1) s (c : Int) (s.size : Int) (i : Int) b = some ((b || decide (c = 45 ∨ c = 95)) && Ze ((bl s).drop (i + 1))) := by
   intro b
   rw [zK.j2, yU (by omega) (by omega)]
   cases b with
   | true => rw [if_pos rfl]; exact hi2
   | false =>
    rw [if_neg (by decide)]
    by_cases h1 : c = 45
    ·rw [if_pos (by omega), decide_eq_true (by omega : c = 45 ∨ c = 95)]; exact hi2
    ·rw [if_neg (by omega)]
     by_cases h2 : c = 95
     ·rw [if_pos (by omega), decide_eq_true (by omega : c = 45 ∨ c = 95)]; exact hi2
     ·rw [if_neg (by omega), decide_eq_false (by omega : ¬ (c = 45 ∨ c = 95))]; rfl
  have hj1 : ∀ b : Bool, zK.j1 (k + 2) s (c : Int) (s.size : Int) (i : Int) b = some ((b || (decide (48 ≤ c ∧ c ≤ 57) || decide (c = 45 ∨ c = 95))) && Ze ((bl s).drop (i + 1))) := by
   intro b
   rw [zK.j1, yU (by omega) (by omega)]
   cases b with
   | true => rw [if_pos rfl]; exact hi1
   | false =>
    rw [if_neg (by decide)]
    by_cases h1 : 48 ≤ c
    ·rw [if_pos (by omega), hj2]
     by_cases h2 : c ≤ 57
     ·rw [decide_eq_true (by omega : (c : Int) ≤ 57), decide_eq_true (by omega : 48 ≤ c ∧ c ≤ 57)]; rfl
     ·rw [decide_eq_false (by omega : ¬ (c : Int) ≤ 57), decide_eq_false (by omega : ¬ (48 ≤ c ∧ c ≤ 57))]; rfl
    ·rw [if_neg (by omega), hj2, decide_eq_false (by omega : ¬ (48 ≤ c ∧ c ≤ 57))]; rfl
  rw [ha, hok]
  by_cases h1 : 97 ≤ c
  ·rw [if_pos (by omega), hj1]
   by_cases h2 : c ≤ 122
   ·rw [decide_eq_true (by omega : (c : Int) ≤ 122), decide_eq_true (by omega : 97 ≤ c ∧ c ≤ 122 ∨ 48 ≤ c ∧ c ≤ 57 ∨ c = 45 ∨ c = 95)]; rfl
   ·rw [decide_eq_false (by omega : ¬ (c : Int) ≤ 122), decide_eq_false (by omega : ¬ (97 ≤ c ∧ c ≤ 122 ∨ 48 ≤ c ∧ c ≤ 57 ∨ c = 45 ∨ c = 95)), decide_eq_false (by omega : ¬ (48 ≤ c ∧ c ≤ 57)), decide_eq_false (by omega : ¬ (c = 45 ∨ c = 95))]; rfl
  ·rw [if_neg (by omega), hj1]
   have e : (false || (decide (48 ≤ c ∧ c ≤ 57) || decide (c = 45 ∨ c = 95))) = decide (97 ≤ c ∧ c ≤ 122 ∨ 48 ≤ c ∧ c ≤ 57 ∨ c = 45 ∨ c = 95) := by
    rw [Bool.false_or, ← Bool.decide_or]
    exact decide_eq_decide.mpr (by omega)
   rw [e]
theorem ZU (s : ByteArray) : s.toList = ([] : List UInt8) ↔ s.size = 0 := by
 have e : ([] : List UInt8) = (⟨#[]⟩ : ByteArray).toList := by rw [ByteArray.toList, ByteArray.toList.loop]; rfl
 rw [e, jG]
 constructor
 ·rintro rfl; rfl
 ·intro h
  apply jU
  have : (bl s).length = 0 := by rw [yY]; exact h
  rw [List.length_eq_zero_iff.mp this]
  rfl
theorem Z0 (s : ByteArray) (hs : s.size ≤ 8796093022000) (k : Nat) (hk : 3 * s.size + 3 ≤ k) : zK.f k s = some (qS s) := by
 unfold zK.f qS
 by_cases h : s.size = 0
 ·rw [if_pos ((ZU s).mpr h), decide_eq_false (by omega)]; rfl
 ·rw [if_neg (fun h' => h ((ZU s).mp h')), decide_eq_true (by omega)]
  have := Jv s hs s.size k 0 (by omega) hk
  rw [List.drop_zero] at this
  rw [Bool.true_and]
  exact this
theorem QG (l : List ByteArray) (i : Nat) (h : i < l.length) : xr ByteArray.empty l (i : Int) = l[i] := by
 simp [xr, h]
theorem QO (s : ByteArray) (d : Nat) : ∀ a, ∀ x ∈ jD s d a, x.size ≤ s.size := by
 have hz : ∀ a b, (s.extract a b).size ≤ s.size := fun a b => by
  rw [← yY, q7, List.length_drop, List.length_take, yY]
  omega
 induction d with
 | zero => intro a x hx; rw [jD, List.mem_singleton] at hx; rw [hx]; exact hz _ _
 | succ d ih =>
  intro a x
  rw [jD]
  split
  ·intro hx
   rcases List.mem_cons.mp hx with rfl | hx
   ·exact hz _ _
   ·exact ih _ x hx
  ·exact ih _ x
theorem ZV (s : ByteArray) : ∀ x ∈ qH s, x.size ≤ s.size := QO s s.size 0
def X1 (l : List ByteArray) : Bool := l.all qS && decide (l.length ≤ 4)
def qY (s : ByteArray) : Bool := decide (s.size ≤ 32) && X1 (qH s)
theorem YT (l : List ByteArray) (hl : l.length ≤ 1000000) (M : Nat) (hM : M ≤ 1000) (hz : ∀ x ∈ l, x.size ≤ M) (d : Nat) : ∀ (k i : Nat), i + d = l.length → d + 3 * M + 5 ≤ k → zE.l0 k l l (l.length : Int) (i : Int) = some ((l.drop i).all qS && decide (l.length ≤ 4)) := by
 induction d with
 | zero =>
  intro k i hi hk
  obtain ⟨k, rfl⟩ : ∃ k', k = k' + 1 := ⟨k - 1, by omega⟩
  have e : decide ((l.length : Int) ≤ 4) = decide (l.length ≤ 4) := decide_eq_decide.mpr (by omega)
  rw [zE.l0, if_neg (by omega), List.drop_eq_nil_of_le (by omega), e]
  rfl
 | succ d ih =>
  intro k i hi hk
  obtain ⟨k, rfl⟩ : ∃ k', k = k' + 1 := ⟨k - 1, by omega⟩
  have hx : l[i].size ≤ M := hz _ (List.getElem_mem _)
  have hp : yI.f k (i : Int) (l.length : Int) l[i] = some (qS l[i]) := by
   unfold yI.f
   rw [zN (Z0 l[i] (by omega) k (by omega))]
  rw [zE.l0, if_pos (by omega), if_pos (by omega), if_pos (by omega), QG l i (by omega), zN hp, List.drop_eq_getElem_cons (by omega), List.all_cons, yU (by omega) (by omega)]
  cases qS l[i] with
  | true => rw [if_pos rfl, Bool.true_and]; exact ih k (i + 1) (by omega) (by omega)
  | false => rw [if_neg (by decide), Bool.false_and, Bool.false_and]
theorem Zl (s : ByteArray) (k : Nat) (hk : 300 ≤ k) : yp.f k s = some (qY s) := by
 have h : zE.f k s = some (qY s) := by
  unfold zE.f qY X1
  by_cases h : s.size ≤ 32
  ·have := YH s
   rw [if_neg (by omega), zN (ZX s (by omega) k (by omega)), decide_eq_true h, Bool.true_and]
   exact YT (qH s) (by omega) 32 (by omega) (fun x hx => Nat.le_trans (ZV s x hx) h) (qH s).length k 0 (by omega) (by omega)
  ·rw [if_pos (by omega), decide_eq_false h, Bool.false_and]
 unfold yp.f
 rw [zN h]
def Yj : ByteArray := ⟨#[42]⟩
def vI : ByteArray := ⟨#[42, 42]⟩
theorem QV : Yj.toList = ([42] : List UInt8) := by decide +kernel
theorem Qe : vI.toList = ([42, 42] : List UInt8) := by decide +kernel
theorem XX (x : ByteArray) : x.toList = ([42] : List UInt8) ↔ x = Yj := by rw [← QV, jG]
theorem Xf (x : ByteArray) : x.toList = ([42, 42] : List UInt8) ↔ x = vI := by rw [← Qe, jG]
instance : DecidableEq ByteArray := fun a b => decidable_of_iff (a.toList = b.toList) jG
def patL : List ByteArray → Bool
 | [] => true
 | x :: l => (qS x || decide (x = Yj) || decide (x = vI ∧ l = [])) && patL l
def qI (s : ByteArray) : Bool := decide (s.size ≤ 32) && (patL (qH s) && decide ((qH s).length ≤ 4))
theorem Ym (l : List ByteArray) (hl : l.length ≤ 1000000) (M : Nat) (hM : M ≤ 1000) (hz : ∀ x ∈ l, x.size ≤ M) (d : Nat) : ∀ (k i : Nat), i + d = l.length → d + 3 * M + 5 ≤ k → zT.l0 k l l (l.length : Int) (i : Int) = some (patL (l.drop i) && decide (l.length ≤ 4)) := by
 induction d with
 | zero =>
  intro k i hi hk
  obtain ⟨k, rfl⟩ : ∃ k', k = k' + 1 := ⟨k - 1, by omega⟩
  have e : decide ((l.length : Int) ≤ 4) = decide (l.length ≤ 4) := decide_eq_decide.mpr (by omega)
  rw [zT.l0, if_neg (by omega), List.drop_eq_nil_of_le (by omega), e]
  rfl
 | succ d ih =>
  intro k i hi hk
  obtain ⟨k, rfl⟩ : ∃ k', k = k' + 1 := ⟨k - 1, by omega⟩
  have hx : l[i].size ≤ M := hz _ (List.getElem_mem _)
  have hn : l.drop (i + 1) = [] ↔ i + 1 = l.length := by
   rw [List.drop_eq_nil_iff]
   omega
  have hp : xv.f k (i : Int) (l.length : Int) l[i] = some (qS l[i] || decide (l[i] = Yj) || decide (l[i] = vI ∧ l.drop (i + 1) = [])) := by
   unfold xv.f
   rw [zN (Z0 l[i] (by omega) k (by omega)), xR (by omega) (by omega)]
   cases qS l[i] with
   | true => rw [if_pos rfl, Bool.true_or, Bool.true_or]
   | false =>
    rw [if_neg (by decide), Bool.false_or]
    by_cases h1 : l[i] = Yj
    ·rw [if_pos ((XX _).mpr h1), decide_eq_true h1, Bool.true_or]
    ·rw [if_neg (fun h => h1 ((XX _).mp h)), decide_eq_false h1, Bool.false_or]
     by_cases h2 : l[i] = vI
     ·rw [if_pos ((Xf _).mpr h2)]
      have e : ((i : Int) == (l.length : Int) - 1) = decide (l[i] = vI ∧ l.drop (i + 1) = []) := by
       rw [Bool.eq_iff_iff, beq_iff_eq, decide_eq_true_eq, hn]
       constructor
       ·intro h; exact ⟨h2, by omega⟩
       ·intro h; omega
      rw [e]
     ·rw [if_neg (fun h => h2 ((Xf _).mp h)), decide_eq_false (fun h => h2 h.1)]
  rw [zT.l0, if_pos (by omega), if_pos (by omega), if_pos (by omega), QG l i (by omega), zN hp, (List.drop_eq_getElem_cons (by omega) : l.drop i = l[i] :: l.drop (i + 1)), patL, yU (by omega) (by omega)]
  cases (qS l[i] || decide (l[i] = Yj) || decide (l[i] = vI ∧ l.drop (i + 1) = [])) with
  | true => rw [if_pos rfl, Bool.true_and]; exact ih k (i + 1) (by omega) (by omega)
  | false => rw [if_neg (by decide), Bool.false_and, Bool.false_and]
theorem Xz (s : ByteArray) (k : Nat) (hk : 300 ≤ k) : xK.f k s = some (qI s) := by
 have h : zT.f k s = some (qI s) := by
  unfold zT.f qI
  by_cases h : s.size ≤ 32
  ·have := YH s
   rw [if_neg (by omega), zN (ZX s (by omega) k (by omega)), decide_eq_true h, Bool.true_and]
   exact Ym (qH s) (by omega) 32 (by omega) (fun x hx => Nat.le_trans (ZV s x hx) h) (qH s).length k 0 (by omega) (by omega)
  ·rw [if_pos (by omega), decide_eq_false h, Bool.false_and]
 unfold xK.f
 rw [zN h]
def ZI : List Nat → List Nat → Bool
 | [], [] => false
 | [], _ :: _ => true
 | _ :: _, [] => false
 | a :: x, b :: y => if a = b then ZI x y else decide (a < b)
theorem Zn : ∀ x y : List UInt8, ZI (x.map (·.toNat)) (y.map (·.toNat)) = Op.bytesLess x y
 | [], [] => rfl
 | [], _ :: _ => rfl
 | _ :: _, [] => rfl
 | a :: x, b :: y => by
  have ih := Zn x y
  rw [List.map_cons, List.map_cons, ZI, Op.bytesLess, ih]
  by_cases h : a = b
  ·subst h
   have h1 : decide (a < a) = false := decide_eq_false (by simp)
   have h3 : (a == a) = true := by simp
   rw [if_pos rfl, h1, h3, Bool.false_or, Bool.true_and]
  ·have h3 : (a == b) = false := by simp [h]
   have hab : ¬ a.toNat = b.toNat := fun h' => h (UInt8.toNat_inj.mp h')
   rw [if_neg hab, h3, Bool.false_and, Bool.or_false]
   exact decide_eq_decide.mpr UInt8.lt_iff_toNat_lt.symm
theorem Xl (s t : ByteArray) : Op.bytesLess s.toList t.toList = ZI (bl s) (bl t) := by
 rw [Go.Lib.toList_data, Go.Lib.toList_data, ← Zn]
 rfl
def wiB (n a b : Int) : Bool := decide (a ≤ n ∧ n ≤ b)
theorem xb (n a b : Int) : zB.f n a b = some (wiB n a b) := by
 unfold zB.f wiB
 by_cases h : n ≥ a
 ·rw [if_pos h]
  exact congrArg some (decide_eq_decide.mpr ⟨fun h2 => ⟨h, h2⟩, fun h2 => h2.2⟩)
 ·rw [if_neg h, decide_eq_false (fun h2 => h h2.1)]
def vB (n : Int) : Bool := wiB n (-1099511627776) 1099511627776
theorem XB {i : Nat} (h : 0 < i) (hi : i < 9223372036854775807) : wrap64 ((i : Int) - 1) = ((i - 1 : Nat) : Int) := by
 rw [xR (by omega) (by omega)]
 omega
def xu {α : Type} (P : α → Bool) (R : α → α → Bool) : Option α → List α → Bool
 | _, [] => true
 | none, x :: l => P x && xu P R (some x) l
 | some p, x :: l => P x && (R p x && xu P R (some x) l)
def jd {α : Type} (l : List α) (i : Nat) : Option α := if i = 0 then none else l[i - 1]?
theorem Z4 {α : Type} (l : List α) (i : Nat) (h : i < l.length) : jd l (i + 1) = some l[i] := by
 unfold jd
 rw [if_neg (by omega), Nat.add_sub_cancel]
 exact List.getElem?_eq_getElem h
theorem Z6 {α : Type} (l : List α) (i : Nat) (h : 0 < i) (h2 : i < l.length) : jd l i = some (l[i - 1]'(by omega)) := by
 unfold jd
 rw [if_neg (by omega)]
 exact List.getElem?_eq_getElem _
theorem jK {α : Type} (l : List α) : jd l 0 = none := if_pos rfl
theorem QL (l : List S81) (i : Nat) (h : i < l.length) : yx l (i : Int) = l[i] := by simp [yx, h]
theorem Xw (l : List S93) (i : Nat) (h : i < l.length) : zM l (i : Int) = l[i] := by simp [zM, h]
theorem Xu (l : List S97) (i : Nat) (h : i < l.length) : zP l (i : Int) = l[i] := by simp [zP, h]
theorem Qx (l : List Int) (hl : l.length < 9223372036854775807) (m : Int) (d : Nat) : ∀ (k i : Nat), i + d = l.length → d + 1 ≤ k → zY.l0 k l m l (l.length : Int) (i : Int) = some ((l.drop i).all vB && decide ((l.length : Int) ≤ m)) := by
 induction d with
 | zero =>
  intro k i hi hk
  obtain ⟨k, rfl⟩ : ∃ k', k = k' + 1 := ⟨k - 1, by omega⟩
  rw [zY.l0, if_neg (by omega), List.drop_eq_nil_of_le (by omega)]
  rfl
 | succ d ih =>
  intro k i hi hk
  obtain ⟨k, rfl⟩ : ∃ k', k = k' + 1 := ⟨k - 1, by omega⟩
  have hs := ih k (i + 1) (by omega) (by omega)
  rw [zY.l0, if_pos (by omega), if_pos (by omega), if_pos (by omega), X5 l i (by omega), zN (xb _ _ _), (List.drop_eq_getElem_cons (by omega) : l.drop i = l[i] :: l.drop (i + 1)), List.all_cons, yU (by omega) (by omega)]
  show (if vB l[i] = true then _ else _) = _
  cases hb : vB l[i] with
  | true => rw [if_pos rfl, Bool.true_and]; exact hs
  | false => rw [if_neg (by decide), Bool.false_and, Bool.false_and]
def jC (l : List Int) (m : Int) : Bool := l.all vB && decide ((l.length : Int) ≤ m)
theorem Zv (l : List Int) (hl : l.length < 9223372036854775807) (m : Int) (k : Nat) (hk : l.length + 1 ≤ k) : zY.f k l m = some (jC l m) := by
 unfold zY.f jC
 exact Qx l hl m l.length k 0 (by omega) hk
def vk (c s : Int) (st : ByteArray) : Bool := wiB c 0 5 && (wiB s 1 1099511627776 && qY st)
theorem YD (c s : Int) (st : ByteArray) (k : Nat) (hk : 300 ≤ k) : yM.f k c s st = some (vk c s st) := by
 unfold yM.f vk
 rw [zN (xb _ _ _)]
 cases wiB c 0 5 with
 | false => rfl
 | true =>
  rw [if_pos rfl, zN (xb _ _ _), Bool.true_and]
  cases wiB s 1 1099511627776 with
  | false => rfl
  | true => rw [if_pos rfl, zN (Zl st k hk), Bool.true_and]
def vS (c s : Int) (st : ByteArray) (r : Int) (l : List Int) (x : Int) : Bool := vk c s st && (wiB r 0 11 && (jC l 4 && wiB x (-1) 1099511627776))
theorem Xh (c s : Int) (st : ByteArray) (r : Int) (l : List Int) (x : Int) (hl : l.length < 9223372036854775807) (k : Nat) (hk : l.length + 300 ≤ k) : yL.f k c s st r l x = some (vS c s st r l x) := by
 unfold yL.f vS
 rw [zN (YD c s st k (by omega))]
 cases vk c s st with
 | false => rfl
 | true =>
  rw [if_pos rfl, zN (xb _ _ _), Bool.true_and]
  cases wiB r 0 11 with
  | false => rfl
  | true =>
   rw [if_pos rfl, zN (Zv l hl 4 k (by omega)), Bool.true_and]
   cases jC l 4 with
   | false => rfl
   | true => rw [if_pos rfl, zN (xb _ _ _), Bool.true_and]
def evB (e : S81) : Bool := wiB e.f0 0 7 && jC e.f1 6
theorem Yc (a : Int) (l : List Int) (hl : l.length < 9223372036854775807) (k : Nat) (hk : l.length + 1 ≤ k) : xB.f k a l = some (wiB a 0 7 && jC l 6) := by
 unfold xB.f
 rw [zN (xb _ _ _)]
 cases wiB a 0 7 with
 | false => rfl
 | true => rw [if_pos rfl, zN (Zv l hl 6 k hk), Bool.true_and]
theorem QR (l : List S81) (hl : l.length < 9223372036854775807) (M : Nat) (hz : ∀ x ∈ l, x.f1.length + 1 ≤ M ∧ x.f1.length < 9223372036854775807) (d : Nat) : ∀ (k i : Nat), i + d = l.length → d + M + 1 ≤ k → yz.l0 k l l (l.length : Int) (i : Int) = some ((l.drop i).all evB && decide ((l.length : Int) ≤ 3)) := by
 induction d with
 | zero =>
  intro k i hi hk
  obtain ⟨k, rfl⟩ : ∃ k', k = k' + 1 := ⟨k - 1, by omega⟩
  rw [yz.l0, if_neg (by omega), List.drop_eq_nil_of_le (by omega)]
  rfl
 | succ d ih =>
  intro k i hi hk
  obtain ⟨k, rfl⟩ : ∃ k', k = k' + 1 := ⟨k - 1, by omega⟩
  have hs := ih k (i + 1) (by omega) (by omega)
  rw [yz.l0, if_pos (by omega), if_pos (by omega), if_pos (by omega), QL l i (by omega), zN (Yc _ _ (hz _ (List.getElem_mem _)).2 k (by have := (hz _ (List.getElem_mem (h := by omega) : l[i] ∈ l)).1; omega)), (List.drop_eq_getElem_cons (by omega) : l.drop i = l[i] :: l.drop (i + 1)), List.all_cons, yU (by omega) (by omega)]
  show (if evB l[i] = true then _ else _) = _
  cases hb : evB l[i] with
  | true => rw [if_pos rfl, Bool.true_and]; exact hs
  | false => rw [if_neg (by decide), Bool.false_and, Bool.false_and]
def vU (l : List S81) : Bool := l.all evB && decide ((l.length : Int) ≤ 3)
theorem XO (l : List S81) (hl : l.length < 9223372036854775807) (M : Nat) (hz : ∀ x ∈ l, x.f1.length + 1 ≤ M ∧ x.f1.length < 9223372036854775807) (k : Nat) (hk : l.length + (M + 1) ≤ k) : yz.f k l = some (vU l) := by
 unfold yz.f vU
 exact QR l hl M hz l.length k 0 (by omega) hk
def vH (c s : Int) (st : ByteArray) (r : Int) (l : List S81) : Bool := vk c s st && (wiB r 0 63 && (vU l && (decide (r = 0) || decide (l.length = 0))))
theorem Zs (c s : Int) (st : ByteArray) (r : Int) (l : List S81) (hl : l.length < 9223372036854775807) (M : Nat) (hz : ∀ x ∈ l, x.f1.length + 1 ≤ M ∧ x.f1.length < 9223372036854775807) (k : Nat) (hk : l.length + M + 300 ≤ k) : yT.f k c s st r l = some (vH c s st r l) := by
 unfold yT.f vH
 rw [zN (YD c s st k (by omega))]
 cases vk c s st with
 | false => rfl
 | true =>
  rw [if_pos rfl, zN (xb _ _ _), Bool.true_and]
  cases wiB r 0 63 with
  | false => rfl
  | true =>
   rw [if_pos rfl, zN (XO l hl M hz k (by omega)), Bool.true_and]
   cases vU l with
   | false => rfl
   | true =>
    rw [if_pos rfl, Bool.true_and]
    by_cases h : r = 0
    ·rw [if_pos h, decide_eq_true h, Bool.true_or]
    ·rw [if_neg h, decide_eq_false h, Bool.false_or]
     have e : ((l.length : Int) == 0) = decide (l.length = 0) := by
      rw [Bool.eq_iff_iff, beq_iff_eq, decide_eq_true_eq]
      omega
     rw [e]
def staB (s : S91) : Bool := wiB s.f0 0 7 && (jC s.f2 6 && wiB s.f1 0 1099511627776)
theorem Qo (a v : Int) (l : List Int) (hl : l.length < 9223372036854775807) (k : Nat) (hk : l.length + 1 ≤ k) : xD.f k a v l = some (wiB a 0 7 && (jC l 6 && wiB v 0 1099511627776)) := by
 unfold xD.f
 rw [zN (Yc a l hl k hk)]
 cases wiB a 0 7 with
 | false => rfl
 | true =>
  rw [Bool.true_and, Bool.true_and]
  cases jC l 6 with
  | false => rfl
  | true => rw [if_pos rfl, zN (xb _ _ _), Bool.true_and]
def itB (x : S93) : Bool := qY x.f0 && staB x.f1
def itR (p x : S93) : Bool := ZI (bl p.f0) (bl x.f0)
def Zw (x : S97) : Bool := wiB x.f0 1 1099511627776 && wiB x.f1 0 63
def verR (p x : S97) : Bool := !decide (x.f0 ≤ p.f0)
theorem Jr (l : List S93) (hl : l.length < 9223372036854775807) (M : Nat) (hz : ∀ x ∈ l, x.f1.f2.length + 300 ≤ M ∧ x.f1.f2.length < 9223372036854775807 ∧ x.f0.size ≤ 140737488351232 ∧ 2 * x.f0.size + 2 ≤ M) (d : Nat) : ∀ (k i : Nat), i + d = l.length → d + M + 1 ≤ k → yl.l0 k l l (l.length : Int) (i : Int) = some (xu itB itR (jd l i) (l.drop i) && decide ((l.length : Int) ≤ 64)) := by
 induction d with
 | zero =>
  intro k i hi hk
  obtain ⟨k, rfl⟩ : ∃ k', k = k' + 1 := ⟨k - 1, by omega⟩
  rw [yl.l0, if_neg (by omega), List.drop_eq_nil_of_le (by omega), xu]
  rfl
 | succ d ih =>
  intro k i hi hk
  obtain ⟨k, rfl⟩ : ∃ k', k = k' + 1 := ⟨k - 1, by omega⟩
  have hs := ih k (i + 1) (by omega) (by omega)
  rw [Z4 l i (by omega)] at hs
  have hgo : ∀ b : Bool, b = itB l[i] → (if b = true then (if (i : Int) > 0 then (if 0 ≤ (wrap64 ((i : Int) - 1)) then (if (wrap64 ((i : Int) - 1)) < (l.length : Int) then (if ((Op.bytesLess (((zM l (wrap64 ((i : Int) - 1))).f0).toList) ((l[i].f0).toList)) = true) then (yl.l0 k l l (l.length : Int) (wrap64 ((i : Int) + 1))) else (some false)) else none) else none) else (yl.l0 k l l (l.length : Int) (wrap64 ((i : Int) + 1)))) else some false) = some (xu itB itR (jd l i) (l.drop i) && decide ((l.length : Int) ≤ 64)) := by
   intro b hb
   rw [(List.drop_eq_getElem_cons (by omega) : l.drop i = l[i] :: l.drop (i + 1)), yU (by omega) (by omega)]
   cases b with
   | false =>
    rw [if_neg (by decide)]
    cases jd l i with
    | none => rw [xu, ← hb, Bool.false_and, Bool.false_and]
    | some p => rw [xu, ← hb, Bool.false_and, Bool.false_and]
   | true =>
    rw [if_pos rfl]
    by_cases h0 : i = 0
    ·subst h0
     rw [if_neg (by omega), jK, xu, ← hb, Bool.true_and]
     exact hs
    ·rw [if_pos (by omega), XB (by omega) (by omega), if_pos (by omega), if_pos (by omega), Z6 l i (by omega) (by omega), xu, ← hb, Bool.true_and]
     rw [Xw l (i - 1) (by omega), Xl]
     show (if itR _ _ = true then _ else _) = _
     cases itR (l[i - 1]'(by omega)) l[i] with
     | true => rw [if_pos rfl, Bool.true_and]; exact hs
     | false => rw [if_neg (by decide), Bool.false_and, Bool.false_and]
  rw [yl.l0, if_pos (by omega), if_pos (by omega), if_pos (by omega)]
  have hm := hz l[i] (List.getElem_mem _)
  rw [Xw l i (by omega), zN (Zl l[i].f0 k (by omega))]
  cases h1 : qY l[i].f0 with
  | false => rw [if_neg (by decide)]; have := hgo false (by unfold itB; rw [h1]; rfl); rw [if_neg (by decide)] at this; exact this
  | true =>
   rw [if_pos rfl, zN (Qo l[i].f1.f0 l[i].f1.f1 l[i].f1.f2 hm.2.1 k (by omega))]
   exact hgo (staB l[i].f1) (by unfold itB; rw [h1, Bool.true_and])
theorem XG (l : List S97) (hl : l.length < 9223372036854775807) (d : Nat) : ∀ (k i : Nat), i + d = l.length → d + 1 ≤ k → z5.l0 k l l (l.length : Int) (i : Int) = some (xu Zw verR (jd l i) (l.drop i) && decide ((l.length : Int) ≤ 32)) := by
 induction d with
 | zero =>
  intro k i hi hk
  obtain ⟨k, rfl⟩ : ∃ k', k = k' + 1 := ⟨k - 1, by omega⟩
  rw [z5.l0, if_neg (by omega), List.drop_eq_nil_of_le (by omega), xu]
  rfl
 | succ d ih =>
  intro k i hi hk
  obtain ⟨k, rfl⟩ : ∃ k', k = k' + 1 := ⟨k - 1, by omega⟩
  have hs := ih k (i + 1) (by omega) (by omega)
  rw [Z4 l i (by omega)] at hs
  have hgo : ∀ b : Bool, b = Zw l[i] → (if b = true then (if (i : Int) > 0 then (if 0 ≤ (wrap64 ((i : Int) - 1)) then (if (wrap64 ((i : Int) - 1)) < (l.length : Int) then (if (l[i].f0) ≤ ((zP l (wrap64 ((i : Int) - 1))).f0) then (some false) else (z5.l0 k l l (l.length : Int) (wrap64 ((i : Int) + 1)))) else none) else none) else (z5.l0 k l l (l.length : Int) (wrap64 ((i : Int) + 1)))) else some false) = some (xu Zw verR (jd l i) (l.drop i) && decide ((l.length : Int) ≤ 32)) := by
   intro b hb
   rw [(List.drop_eq_getElem_cons (by omega) : l.drop i = l[i] :: l.drop (i + 1)), yU (by omega) (by omega)]
   cases b with
   | false =>
    rw [if_neg (by decide)]
    cases jd l i with
    | none => rw [xu, ← hb, Bool.false_and, Bool.false_and]
    | some p => rw [xu, ← hb, Bool.false_and, Bool.false_and]
   | true =>
    rw [if_pos rfl]
    by_cases h0 : i = 0
    ·subst h0
     rw [if_neg (by omega), jK, xu, ← hb, Bool.true_and]
     exact hs
    ·rw [if_pos (by omega), XB (by omega) (by omega), if_pos (by omega), if_pos (by omega), Z6 l i (by omega) (by omega), xu, ← hb, Bool.true_and]
     rw [Xu l (i - 1) (by omega)]
     unfold verR
     by_cases h : l[i].f0 ≤ (l[i - 1]'(by omega)).f0
     ·rw [if_pos h, decide_eq_true h]; rfl
     ·rw [if_neg h, decide_eq_false h]; exact hs
  rw [z5.l0, if_pos (by omega), if_pos (by omega), if_pos (by omega)]
  rw [Xu l i (by omega), zN (xb _ _ _)]
  cases h1 : wiB l[i].f0 1 1099511627776 with
  | false => rw [if_neg (by decide)]; have := hgo false (by unfold Zw; rw [h1]; rfl); rw [if_neg (by decide)] at this; exact this
  | true =>
   rw [if_pos rfl, zN (xb _ _ _)]
   exact hgo (wiB l[i].f1 0 63) (by unfold Zw; rw [h1, Bool.true_and])
def q8 (l : List S93) : Bool := xu itB itR none l && decide ((l.length : Int) ≤ 64)
def qp (l : List S97) : Bool := xu Zw verR none l && decide ((l.length : Int) ≤ 32)
theorem Z8 (l : List S93) (hl : l.length < 9223372036854775807) (M : Nat) (hz : ∀ x ∈ l, x.f1.f2.length + 300 ≤ M ∧ x.f1.f2.length < 9223372036854775807 ∧ x.f0.size ≤ 140737488351232 ∧ 2 * x.f0.size + 2 ≤ M) (k : Nat) (hk : l.length + (M + 1) ≤ k) : yl.f k l = some (q8 l) := by
 unfold yl.f q8
 have h := Jr l hl M hz l.length k 0 (by omega) hk
 rw [jK] at h
 exact h
theorem vL (l : List S97) (hl : l.length < 9223372036854775807) (k : Nat) (hk : l.length + 1 ≤ k) : z5.f k l = some (qp l) := by
 unfold z5.f qp
 have h := XG l hl l.length k 0 (by omega) hk
 rw [jK] at h
 exact h
def vO (l : List ByteArray) : Bool := decide (l.length ≤ 8) && l.all qI
theorem Js (l : List ByteArray) (hl : l.length < 9223372036854775807) (d : Nat) : ∀ (k i : Nat), i + d = l.length → d + 301 ≤ k → ∃ r, yG.l0 k l (l.length : Int) (i : Int) = some r ∧ (r.2 == 0) = (l.drop i).all qI := by
 induction d with
 | zero =>
  intro k i hi hk
  obtain ⟨k, rfl⟩ : ∃ k', k = k' + 1 := ⟨k - 1, by omega⟩
  rw [yG.l0, if_neg (by omega), List.drop_eq_nil_of_le (by omega)]
  exact ⟨_, rfl, rfl⟩
 | succ d ih =>
  intro k i hi hk
  obtain ⟨k, rfl⟩ : ∃ k', k = k' + 1 := ⟨k - 1, by omega⟩
  have hs := ih k (i + 1) (by omega) (by omega)
  rw [yG.l0, if_pos (by omega), if_pos (by omega), if_pos (by omega), XU l i (by omega), zN (Xz l[i] k (by omega)), (List.drop_eq_getElem_cons (by omega) : l.drop i = l[i] :: l.drop (i + 1)), List.all_cons, yU (by omega) (by omega)]
  cases qI l[i] with
  | true => rw [if_pos rfl, Bool.true_and]; exact hs
  | false => rw [if_neg (by decide), Bool.false_and]; exact ⟨_, rfl, rfl⟩
theorem ZO (l : List ByteArray) (hl : l.length < 9223372036854775807) (k : Nat) (hk : l.length + 301 ≤ k) : ∃ r, yG.f k l = some r ∧ (r.2 == 0) = vO l := by
 unfold yG.f vO
 by_cases h : l.length ≤ 8
 ·rw [if_neg (by omega), decide_eq_true h, Bool.true_and]
  exact Js l hl l.length k 0 (by omega) (by omega)
 ·rw [if_pos (by omega), decide_eq_false h]
  exact ⟨_, rfl, rfl⟩
theorem jl (a b : ByteArray) : bytesOf (a ++ b) = bytesOf a ++ bytesOf b := by
 rw [je, je, je, qi, List.map_append]
theorem jy : bytesOf (⟨#[]⟩ : ByteArray) = [] := rfl
theorem Zg (a : ByteArray) : (⟨#[]⟩ : ByteArray) ++ a = a := jU (by rw [qi]; rfl)
def jp {α : Type} (B : α → ByteArray) (l : List α) : ByteArray := qE (fun x => (B x, (0 : Int))) l
def yV {α : Type} (B : α → ByteArray) (l : List α) : ByteArray := yo (l.length : Int) ++ jp B l
def vA (l : List Int) : ByteArray := jp yo l
def xM (s : ByteArray) : ByteArray := yo (s.size : Int) ++ s
theorem jV {α : Type} (B : α → ByteArray) : jp B [] = ⟨#[]⟩ := rfl
theorem qj {α : Type} (B : α → ByteArray) (x : α) (l : List α) : jp B (x :: l) = B x ++ jp B l := rfl
theorem YE {α : Type} (B : α → ByteArray) (M : Nat) (l : List α) (h : ∀ x ∈ l, (B x).size ≤ M) : (jp B l).size ≤ M * l.length := vN _ M l h
theorem Q1 (a b : Int) : vA [a, b] = yo a ++ yo b := by
 unfold vA
 rw [qj, qj, jV, ji]
theorem Qz (a : Int) : vA [a] = yo a := by
 unfold vA
 rw [qj, jV, ji]
theorem jE (l : List Int) : (yV yo l).size ≤ 10 + 10 * l.length := by
 have h1 := yk (l.length : Int)
 have h2 := YE yo 10 l (fun x _ => yk x)
 unfold yV
 rw [ya]
 omega
theorem jO (s : ByteArray) : (xM s).size ≤ 10 + s.size := by
 have := yk (s.size : Int)
 unfold xM
 rw [ya]
 omega
theorem jt (l : List Int) : (xn l).1.size ≤ 10000000 := by
 by_cases h : 256 < l.length
 ·unfold xn
  rw [if_pos h]
  exact Nat.zero_le _
 ·exact YS l (by
   unfold xn
   rw [if_neg h, vT _ _ _ (fun _ _ => rfl)])
theorem qO (l : List Int) (h : l.length ≤ 256) : xn l = (yV yo l, 0) := by
 unfold xn
 rw [if_neg (by omega), vT _ _ _ (fun _ _ => rfl)]
 rfl
theorem qV (s : ByteArray) (h : s.size ≤ 4096) : qL s = (xM s, 0) := by
 unfold qL
 rw [if_neg (by omega)]
 rfl
theorem Q6 (l : List Int) (h : ∀ n ∈ l, (Lit.int .i64 n).wf = true) (hl : l.length ≤ 1048576) (d : Nat) : ∀ (k i : Nat) (acc : ByteArray), i + d = l.length → d + 1 ≤ k → acc.size + 10 * d < 140737488355328 →
  zD.l0 k (bytesOf acc) l (l.length : Int) (i : Int) = some (bytesOf (acc ++ vA (l.drop i))) := by
 induction d with
 | zero =>
  intro k i acc hi hk ha
  obtain ⟨k, rfl⟩ : ∃ m, k = m + 1 := ⟨k - 1, by omega⟩
  rw [zD.l0, if_neg (by omega), List.drop_of_length_le (by omega), vA, jV, ji]
 | succ d ih =>
  intro k i acc hi hk ha
  obtain ⟨k, rfl⟩ : ∃ m, k = m + 1 := ⟨k - 1, by omega⟩
  have hlt : i < l.length := by omega
  have hb := Z5 (h _ (List.getElem_mem hlt))
  have hs := yk l[i]
  rw [zD.l0, if_pos (by omega), if_pos (by omega), if_pos (by omega), X5 l i hlt, zN (qU _ hb.1 hb.2), if_pos (by rw [xh]; omega), yU (by omega) (by omega), List.drop_eq_getElem_cons hlt, ← jl]
  have := ih k (i + 1) (acc ++ yo l[i]) (by omega) (by omega) (by rw [ya]; omega)
  rw [xF] at this
  exact this
theorem jX (l : List Int) (h : ∀ n ∈ l, (Lit.int .i64 n).wf = true) (hl : l.length ≤ 1048576) (acc : ByteArray) (ha : acc.size + 10 * l.length < 140737488355328) (k : Nat) (hk : l.length + 1 ≤ k) :
  zD.f k (bytesOf acc) l = some (bytesOf (acc ++ vA l)) := by
 unfold zD.f
 exact Q6 l h hl l.length k 0 acc (by omega) hk ha
theorem Vj {a b : Int} (ha : (Lit.int .i64 a).wf = true) (hb : (Lit.int .i64 b).wf = true) : ∀ n ∈ [a, b], (Lit.int .i64 n).wf = true := by
 intro n hn
 rcases List.mem_cons.1 hn with rfl | hn
 ·exact ha
 ·rcases List.mem_cons.1 hn with rfl | hn
  ·exact hb
  ·cases hn
theorem Vq {a : Int} (ha : (Lit.int .i64 a).wf = true) : ∀ n ∈ [a], (Lit.int .i64 n).wf = true := by
 intro n hn
 rcases List.mem_cons.1 hn with rfl | hn
 ·exact ha
 ·cases hn
theorem jI (a b : Int) (ha : (Lit.int .i64 a).wf = true) (hb : (Lit.int .i64 b).wf = true) (acc : ByteArray) (hacc : acc.size + 20 < 140737488355328) (k : Nat) (hk : 3 ≤ k) :
  zD.f k (bytesOf acc) [a, b] = some (bytesOf (acc ++ (yo a ++ yo b))) := by
 rw [jX [a, b] (Vj ha hb) (by simp) acc (by simp; omega) k (by simp; omega), Q1]
theorem qt (a : Int) (ha : (Lit.int .i64 a).wf = true) (acc : ByteArray) (hacc : acc.size + 20 < 140737488355328) (k : Nat) (hk : 3 ≤ k) :
  zD.f k (bytesOf acc) [a] = some (bytesOf (acc ++ yo a)) := by
 rw [jX [a] (Vq ha) (by simp) acc (by simp; omega) k (by simp; omega), Qz]
theorem jn (s : ByteArray) (hs : s.size ≤ 140737488351232) (acc : ByteArray) (ha : acc.size + 4106 < 140737488355328) : yR.f (bytesOf acc) s = some (bytesOf (acc ++ (qL s).1)) := by
 have := qs s
 unfold yR.f
 rw [zN (YO s hs), if_pos (by rw [xh]; omega), ← jl]
theorem qP (l : List Int) (h : ∀ n ∈ l, (Lit.int .i64 n).wf = true) (acc : ByteArray) (ha : acc.size + 10000000 < 140737488355328) : yy.f (bytesOf acc) l = some (bytesOf (acc ++ (xn l).1)) := by
 have := jt l
 unfold yy.f
 rw [zN (Xi l h), if_pos (by rw [xh]; omega), ← jl]
def jx (b : Bool) (y : ByteArray) : ByteArray × Int := if b = true then (y, 0) else (⟨#[]⟩, 2)
theorem jz (b : Bool) (y : ByteArray) : yi.f b (bytesOf y) = some (jx b y) := by
 unfold yi.f jx
 cases b with
 | true => rw [if_pos rfl, if_pos rfl, qn]
 | false => rw [if_neg (by decide), if_neg (by decide)]
theorem ZS {α : Type} (T : List Int → α → Option (List Int)) (B : α → ByteArray) (M : Nat) (l : List α) : ∀ acc : ByteArray, (∀ x ∈ l, (B x).size ≤ M) → (∀ x ∈ l, ∀ a : ByteArray, a.size + M < 140737488355328 → T (bytesOf a) x = some (bytesOf (a ++ B x))) → acc.size + M * l.length < 140737488355328 →
  ja T l (bytesOf acc) = some (bytesOf (acc ++ jp B l)) := by
 induction l with
 | nil => intro acc _ _ _; rw [jV, ji]; rfl
 | cons x l ih =>
  intro acc hM hT ha
  rw [List.length_cons, Nat.mul_succ] at ha
  have h1 := hM x List.mem_cons_self
  rw [ja, zN (hT x List.mem_cons_self acc (by omega)), ih (acc ++ B x) (fun y hy => hM y (List.mem_cons_of_mem _ hy)) (fun y hy => hT y (List.mem_cons_of_mem _ hy)) (by rw [ya]; omega), qj, xF]
def y8 (s : ByteArray) (a e : Int) : Int × Int × Int := if e = 0 then xy s a else (0, a, e)
def j7 (s : ByteArray) (a e : Int) : ByteArray × Int × Int := if e = 0 then Yh s a else (⟨#[]⟩, a, e)
def jL (s : ByteArray) (a e : Int) : List Int × Int × Int := if e = 0 then vz (xy s) s a else ([], a, e)
theorem yW (s : ByteArray) (hs : s.size ≤ 140737488351232) (a e : Int) (k : Nat) (hk : 40 ≤ k) : zw.f k s a e = some ((y8 s a e).1, s, (y8 s a e).2.1, (y8 s a e).2.2) := by
 unfold zw.f y8
 by_cases h : e = 0
 ·rw [if_pos h, if_pos h, zN (vV s hs a k hk)]
 ·rw [if_neg h, if_neg h]
theorem jH (s : ByteArray) (hs : s.size ≤ 140737488351232) (a e : Int) (k : Nat) (hk : 50 ≤ k) : yg.f k s a e = some ((j7 s a e).1, s, (j7 s a e).2.1, (j7 s a e).2.2) := by
 unfold yg.f j7
 by_cases h : e = 0
 ·rw [if_pos h, if_pos h, zN (YY s hs a k hk)]
 ·rw [if_neg h, if_neg h]
theorem vx (s : ByteArray) (hs : s.size ≤ 140737488351232) (a e : Int) (k : Nat) (hk : 400 ≤ k) : z6.f k s a e = some ((jL s a e).1, s, (jL s a e).2.1, (jL s a e).2.2) := by
 unfold z6.f jL
 by_cases h : e = 0
 ·rw [if_pos h, if_pos h, zN (Y3 s hs a k hk)]
 ·rw [if_neg h, if_neg h]
def Took (s : ByteArray) (a e : Int) (x : ByteArray) (r : Int × Int) : Prop := r.2 = 0 → e = 0 ∧ 0 ≤ a ∧ a < r.1 ∧ r.1 ≤ (s.size : Int) ∧ x = s.extract a.toNat r.1.toNat
theorem Took.next {s : ByteArray} {a e : Int} {x y : ByteArray} {r q : Int × Int} (h1 : Took s a e x r) (h2 : Took s r.1 r.2 y q) : Took s a e (x ++ y) q := by
 intro h
 obtain ⟨b1, b2, b3, b4, b5⟩ := h2 h
 obtain ⟨a1, a2, a3, a4, a5⟩ := h1 b1
 refine ⟨a1, a2, by omega, b4, ?_⟩
 rw [a5, b5]
 exact Ju s a.toNat r.1.toNat q.1.toNat (by omega) (by omega) (by omega)
theorem xG (s : ByteArray) (n : Int) (hw : (Lit.int .i64 n).wf = true) (p : Nat) (h : At s p (yo n)) : y8 s (p : Int) 0 = (n, ((p + (yo n).size : Nat) : Int), 0) := by
 have hb := Z5 hw
 unfold y8
 rw [if_pos rfl]
 exact vX s n hb.1 hb.2 p h
theorem jJ (s t : ByteArray) (ht : t.size ≤ 4096) (p : Nat) (h : At s p (xM t)) : j7 s (p : Int) 0 = (t, ((p + (xM t).size : Nat) : Int), 0) := by
 unfold j7
 rw [if_pos rfl]
 exact Qa s t ht p h
theorem vy (s : ByteArray) (l : List Int) (hw : ∀ n ∈ l, (Lit.int .i64 n).wf = true) (hl : l.length ≤ 256) (p : Nat) (h : At s p (yV yo l)) : jL s (p : Int) 0 = (l, ((p + (yV yo l).size : Nat) : Int), 0) := by
 unfold jL
 rw [if_pos rfl]
 have h1 := qO l hl
 have h2 := XD s l hw p (by rw [h1]) (by rw [h1]; exact h)
 rw [h1] at h2
 exact h2
def xT {α : Type} (R : Int → α × Int × Int) : Nat → Int → Int → List α → List α × Int × Int
 | 0, a, e, acc => (acc, a, e)
 | d + 1, a, e, acc => if e = 0 then xT R d (R a).2.1 (R a).2.2 (acc ++ [(R a).1]) else (acc, a, e)
def qd {α : Type} (R : Int → α × Int × Int) (m : Int) (s : ByteArray) (a e : Int) : List α × Int × Int :=
 if (y8 s a e).2.2 = 0 then (if wiB (y8 s a e).1 0 m = true then xT R (y8 s a e).1.toNat (y8 s a e).2.1 0 [] else ([], (y8 s a e).2.1, 6)) else ([], (y8 s a e).2.1, (y8 s a e).2.2)
theorem jP (n a b : Int) : wiB n a b = true ↔ a ≤ n ∧ n ≤ b := by
 unfold wiB
 exact decide_eq_true_iff
theorem Qh {α : Type} (s : ByteArray) (R : Int → α × Int × Int) (B : α → ByteArray) (l : List α) : ∀ (p : Nat) (acc : List α), (∀ x ∈ l, ∀ q : Nat, At s q (B x) → R (q : Int) = (x, ((q + (B x).size : Nat) : Int), 0)) → At s p (jp B l) →
  xT R l.length (p : Int) 0 acc = (acc ++ l, ((p + (jp B l).size : Nat) : Int), 0) := by
 induction l with
 | nil => intro p acc _ _; rw [List.append_nil]; rfl
 | cons x l ih =>
  intro p acc h hat
  rw [qj] at hat
  have h1 := h x (List.mem_cons_self ..) p hat.left
  rw [List.length_cons, xT, if_pos rfl, h1]
  have := ih (p + (B x).size) (acc ++ [x]) (fun y hy => h y (List.mem_cons_of_mem _ hy)) hat.right
  rw [qj, ya, ← Nat.add_assoc]
  rw [List.append_assoc] at this
  exact this
theorem jM {α : Type} (s : ByteArray) (R : Int → α × Int × Int) (B : α → ByteArray) (l : List α) (m : Nat) (hl : l.length ≤ m) (hm : m ≤ 4096) (p : Nat) (h : ∀ x ∈ l, ∀ q : Nat, At s q (B x) → R (q : Int) = (x, ((q + (B x).size : Nat) : Int), 0)) (hat : At s p (yV B l)) :
  qd R (m : Int) s (p : Int) 0 = (l, ((p + (yV B l).size : Nat) : Int), 0) := by
 unfold yV at hat ⊢
 unfold qd
 rw [xG s l.length (Zc _ (by omega) (by omega)) p hat.left, if_pos rfl, if_pos ((jP _ _ _).2 ⟨by omega, by omega⟩), Int.toNat_natCast]
 have := Qh s R B l (p + (yo (l.length : Int)).size) [] h hat.right
 rw [ya, ← Nat.add_assoc]
 exact this
def evE (s : ByteArray) (a e : Int) : S81 × Int × Int := ((⟨(y8 s a e).1, (jL s (y8 s a e).2.1 (y8 s a e).2.2).1⟩ : S81), (jL s (y8 s a e).2.1 (y8 s a e).2.2).2)
def evY (x : S81) : ByteArray := yo x.f0 ++ yV yo x.f1
theorem X6 (s : ByteArray) (hs : s.size ≤ 140737488351232) (a e : Int) (k : Nat) (hk : 400 ≤ k) : xW.f k s a e = some ((evE s a e).1.f0, (evE s a e).1.f1, s, (evE s a e).2.1, (evE s a e).2.2) := by
 unfold xW.f
 rw [zN (yW s hs a e k (by omega)), zN (vx s hs _ _ k hk)]
 rfl
theorem Jn (s : ByteArray) (x : S81) (h0 : (Lit.int .i64 x.f0).wf = true) (h1 : ∀ n ∈ x.f1, (Lit.int .i64 n).wf = true) (h2 : x.f1.length ≤ 256) (p : Nat) (h : At s p (evY x)) : evE s (p : Int) 0 = (x, ((p + (evY x).size : Nat) : Int), 0) := by
 unfold evY at h ⊢
 unfold evE
 rw [xG s x.f0 h0 p h.left, vy s x.f1 h1 h2 _ h.right, ya, Nat.add_assoc]
def veE (s : ByteArray) (a e : Int) : S97 × Int × Int := ((⟨(y8 s a e).1, (y8 s (y8 s a e).2.1 (y8 s a e).2.2).1⟩ : S97), (y8 s (y8 s a e).2.1 (y8 s a e).2.2).2)
def veY (x : S97) : ByteArray := yo x.f0 ++ yo x.f1
theorem Xv (s : ByteArray) (hs : s.size ≤ 140737488351232) (a e : Int) (k : Nat) (hk : 400 ≤ k) : xq.f k s a e = some ((veE s a e).1.f0, (veE s a e).1.f1, s, (veE s a e).2.1, (veE s a e).2.2) := by
 unfold xq.f
 rw [zN (yW s hs a e k (by omega)), zN (yW s hs _ _ k (by omega))]
 rfl
theorem JG (s : ByteArray) (x : S97) (h0 : (Lit.int .i64 x.f0).wf = true) (h1 : (Lit.int .i64 x.f1).wf = true) (p : Nat) (h : At s p (veY x)) : veE s (p : Int) 0 = (x, ((p + (veY x).size : Nat) : Int), 0) := by
 unfold veY at h ⊢
 unfold veE
 rw [xG s x.f0 h0 p h.left, xG s x.f1 h1 _ h.right, ya, Nat.add_assoc]
def itE (s : ByteArray) (a e : Int) : S93 × Int × Int :=
 let t := j7 s a e
 let n := y8 s t.2.1 t.2.2
 let v := y8 s n.2.1 n.2.2
 let l := jL s v.2.1 v.2.2
 ((⟨t.1, (⟨n.1, v.1, l.1⟩ : S91)⟩ : S93), l.2)
def itY (x : S93) : ByteArray := ((xM x.f0 ++ yo x.f1.f0) ++ yo x.f1.f1) ++ yV yo x.f1.f2
theorem Qy (s : ByteArray) (hs : s.size ≤ 140737488351232) (a e : Int) (k : Nat) (hk : 400 ≤ k) : xQ.f k s a e = some ((itE s a e).1.f0, (itE s a e).1.f1.f0, (itE s a e).1.f1.f1, (itE s a e).1.f1.f2, s, (itE s a e).2.1, (itE s a e).2.2) := by
 unfold xQ.f
 rw [zN (jH s hs a e k (by omega)), zN (yW s hs _ _ k (by omega)), zN (yW s hs _ _ k (by omega)), zN (vx s hs _ _ k hk)]
 rfl
theorem Jp (s : ByteArray) (x : S93) (h : x.f0.size ≤ 4096) (h0 : (Lit.int .i64 x.f1.f0).wf = true) (h1 : (Lit.int .i64 x.f1.f1).wf = true) (h2 : ∀ n ∈ x.f1.f2, (Lit.int .i64 n).wf = true) (h3 : x.f1.f2.length ≤ 256) (p : Nat) (hat : At s p (itY x)) : itE s (p : Int) 0 = (x, ((p + (itY x).size : Nat) : Int), 0) := by
 unfold itY at hat ⊢
 unfold itE
 have e1 := jJ s x.f0 h p hat.left.left.left
 have e2 := xG s x.f1.f0 h0 _ hat.left.left.right
 have e3 := xG s x.f1.f1 h1 _ (by have := hat.left.right; rw [ya, ← Nat.add_assoc] at this; exact this)
 have e4 := vy s x.f1.f2 h2 h3 _ (by have := hat.right; rw [ya, ya, ← Nat.add_assoc, ← Nat.add_assoc] at this; exact this)
 simp only [e1, e2, e3, e4]
 rw [ya, ya, ya, ← Nat.add_assoc, ← Nat.add_assoc, ← Nat.add_assoc]
def teE (s : ByteArray) (a e : Int) : ByteArray × Int × Int := j7 s a e
theorem XK (s : ByteArray) (hs : s.size ≤ 140737488351232) (a e : Int) (k : Nat) (hk : 400 ≤ k) : xI.f k s a e = some ((teE s a e).1, s, (teE s a e).2.1, (teE s a e).2.2) := by
 unfold xI.f
 rw [zN (jH s hs a e k (by omega))]
 rfl
theorem Qk (s : ByteArray) (hs : s.size ≤ 140737488351232) (n : Nat) (hn : n ≤ 1000) (d : Nat) : ∀ (k i : Nat) (a e : Int) (acc : List S81), i + d = n → acc.length = i → d + 420 ≤ k →
  zy.l0 k (n : Int) acc (i : Int) s a e = some ((xT (fun a => evE s a 0) d a e acc).1, s, (xT (fun a => evE s a 0) d a e acc).2.1, (xT (fun a => evE s a 0) d a e acc).2.2) := by
 induction d with
 | zero =>
  intro k i a e acc hi hl hk
  obtain ⟨k, rfl⟩ : ∃ m, k = m + 1 := ⟨k - 1, by omega⟩
  rw [zy.l0, if_neg (by omega)]
  rfl
 | succ d ih =>
  intro k i a e acc hi hl hk
  obtain ⟨k, rfl⟩ : ∃ m, k = m + 1 := ⟨k - 1, by omega⟩
  rw [zy.l0, if_pos (by omega), xT]
  by_cases he : e = 0
  ·rw [if_pos he, if_pos he, he, zN (X6 s hs a 0 k (by omega)), if_pos (by omega), yU (by omega) (by omega)]
   exact ih k (i + 1) _ _ _ (by omega) (by rw [VB, List.length_singleton]; omega) (by omega)
  ·rw [if_neg he, if_neg he]
theorem Xr (s : ByteArray) (hs : s.size ≤ 140737488351232) (m : Nat) (hm : m ≤ 1000) (a e : Int) (k : Nat) (hk : 1500 ≤ k) :
  zy.f k s a e (m : Int) = some ((qd (fun a => evE s a 0) m s a e).1, s, (qd (fun a => evE s a 0) m s a e).2.1, (qd (fun a => evE s a 0) m s a e).2.2) := by
 obtain ⟨k, rfl⟩ : ∃ j, k = j + 3 := ⟨k - 3, by omega⟩
 have hbad : ∀ (n : Int) (b x : Int), x ≠ 0 → zy.l0 (k + 1) n [] 0 s b x = some ([], s, b, x) := by
  intro n b x hx
  rw [zy.l0]
  split <;> rfl
 unfold zy.f
 rw [zN (yW s hs a e (k + 3) (by omega))]
 unfold qd
 by_cases h : (y8 s a e).2.2 = 0
 ·rw [if_pos h, if_pos h, zN (xb _ _ _), zy.j0]
  cases hw : wiB (y8 s a e).1 0 (m : Int) with
  | false =>
   rw [if_pos (by rfl), zy.j1, hbad _ _ 6 (by decide), if_neg (by decide)]
  | true =>
   have hb := (jP _ _ _).1 hw
   rw [if_neg (by decide), zy.j1, h, if_pos rfl]
   have := Qk s hs (y8 s a e).1.toNat (by omega) (y8 s a e).1.toNat (k + 1) 0 (y8 s a e).2.1 0 [] (by omega) rfl (by omega)
   rw [Int.toNat_of_nonneg hb.1] at this
   exact this
 ·rw [if_neg h, if_neg h, zy.j0, if_neg (by decide), zy.j1, hbad _ _ _ h]
theorem Qw (s : ByteArray) (hs : s.size ≤ 140737488351232) (n : Nat) (hn : n ≤ 1000) (d : Nat) : ∀ (k i : Nat) (a e : Int) (acc : List S93), i + d = n → acc.length = i → d + 420 ≤ k →
  zv.l0 k (n : Int) acc (i : Int) s a e = some ((xT (fun a => itE s a 0) d a e acc).1, s, (xT (fun a => itE s a 0) d a e acc).2.1, (xT (fun a => itE s a 0) d a e acc).2.2) := by
 induction d with
 | zero =>
  intro k i a e acc hi hl hk
  obtain ⟨k, rfl⟩ : ∃ m, k = m + 1 := ⟨k - 1, by omega⟩
  rw [zv.l0, if_neg (by omega)]
  rfl
 | succ d ih =>
  intro k i a e acc hi hl hk
  obtain ⟨k, rfl⟩ : ∃ m, k = m + 1 := ⟨k - 1, by omega⟩
  rw [zv.l0, if_pos (by omega), xT]
  by_cases he : e = 0
  ·rw [if_pos he, if_pos he, he, zN (Qy s hs a 0 k (by omega)), if_pos (by omega), yU (by omega) (by omega)]
   exact ih k (i + 1) _ _ _ (by omega) (by rw [VB, List.length_singleton]; omega) (by omega)
  ·rw [if_neg he, if_neg he]
theorem XP (s : ByteArray) (hs : s.size ≤ 140737488351232) (m : Nat) (hm : m ≤ 1000) (a e : Int) (k : Nat) (hk : 1500 ≤ k) :
  zv.f k s a e (m : Int) = some ((qd (fun a => itE s a 0) m s a e).1, s, (qd (fun a => itE s a 0) m s a e).2.1, (qd (fun a => itE s a 0) m s a e).2.2) := by
 obtain ⟨k, rfl⟩ : ∃ j, k = j + 3 := ⟨k - 3, by omega⟩
 have hbad : ∀ (n : Int) (b x : Int), x ≠ 0 → zv.l0 (k + 1) n [] 0 s b x = some ([], s, b, x) := by
  intro n b x hx
  rw [zv.l0]
  split <;> rfl
 unfold zv.f
 rw [zN (yW s hs a e (k + 3) (by omega))]
 unfold qd
 by_cases h : (y8 s a e).2.2 = 0
 ·rw [if_pos h, if_pos h, zN (xb _ _ _), zv.j0]
  cases hw : wiB (y8 s a e).1 0 (m : Int) with
  | false =>
   rw [if_pos (by rfl), zv.j1, hbad _ _ 6 (by decide), if_neg (by decide)]
  | true =>
   have hb := (jP _ _ _).1 hw
   rw [if_neg (by decide), zv.j1, h, if_pos rfl]
   have := Qw s hs (y8 s a e).1.toNat (by omega) (y8 s a e).1.toNat (k + 1) 0 (y8 s a e).2.1 0 [] (by omega) rfl (by omega)
   rw [Int.toNat_of_nonneg hb.1] at this
   exact this
 ·rw [if_neg h, if_neg h, zv.j0, if_neg (by decide), zv.j1, hbad _ _ _ h]
theorem Xn (s : ByteArray) (hs : s.size ≤ 140737488351232) (n : Nat) (hn : n ≤ 1000) (d : Nat) : ∀ (k i : Nat) (a e : Int) (acc : List S97), i + d = n → acc.length = i → d + 420 ≤ k →
  zm.l0 k (n : Int) acc (i : Int) s a e = some ((xT (fun a => veE s a 0) d a e acc).1, s, (xT (fun a => veE s a 0) d a e acc).2.1, (xT (fun a => veE s a 0) d a e acc).2.2) := by
 induction d with
 | zero =>
  intro k i a e acc hi hl hk
  obtain ⟨k, rfl⟩ : ∃ m, k = m + 1 := ⟨k - 1, by omega⟩
  rw [zm.l0, if_neg (by omega)]
  rfl
 | succ d ih =>
  intro k i a e acc hi hl hk
  obtain ⟨k, rfl⟩ : ∃ m, k = m + 1 := ⟨k - 1, by omega⟩
  rw [zm.l0, if_pos (by omega), xT]
  by_cases he : e = 0
  ·rw [if_pos he, if_pos he, he, zN (Xv s hs a 0 k (by omega)), if_pos (by omega), yU (by omega) (by omega)]
   exact ih k (i + 1) _ _ _ (by omega) (by rw [VB, List.length_singleton]; omega) (by omega)
  ·rw [if_neg he, if_neg he]
theorem Yp (s : ByteArray) (hs : s.size ≤ 140737488351232) (m : Nat) (hm : m ≤ 1000) (a e : Int) (k : Nat) (hk : 1500 ≤ k) :
  zm.f k s a e (m : Int) = some ((qd (fun a => veE s a 0) m s a e).1, s, (qd (fun a => veE s a 0) m s a e).2.1, (qd (fun a => veE s a 0) m s a e).2.2) := by
 obtain ⟨k, rfl⟩ : ∃ j, k = j + 3 := ⟨k - 3, by omega⟩
 have hbad : ∀ (n : Int) (b x : Int), x ≠ 0 → zm.l0 (k + 1) n [] 0 s b x = some ([], s, b, x) := by
  intro n b x hx
  rw [zm.l0]
  split <;> rfl
 unfold zm.f
 rw [zN (yW s hs a e (k + 3) (by omega))]
 unfold qd
 by_cases h : (y8 s a e).2.2 = 0
 ·rw [if_pos h, if_pos h, zN (xb _ _ _), zm.j0]
  cases hw : wiB (y8 s a e).1 0 (m : Int) with
  | false =>
   rw [if_pos (by rfl), zm.j1, hbad _ _ 6 (by decide), if_neg (by decide)]
  | true =>
   have hb := (jP _ _ _).1 hw
   rw [if_neg (by decide), zm.j1, h, if_pos rfl]
   have := Xn s hs (y8 s a e).1.toNat (by omega) (y8 s a e).1.toNat (k + 1) 0 (y8 s a e).2.1 0 [] (by omega) rfl (by omega)
   rw [Int.toNat_of_nonneg hb.1] at this
   exact this
 ·rw [if_neg h, if_neg h, zm.j0, if_neg (by decide), zm.j1, hbad _ _ _ h]
theorem XI (s : ByteArray) (hs : s.size ≤ 140737488351232) (n : Nat) (hn : n ≤ 1000) (d : Nat) : ∀ (k i : Nat) (a e : Int) (acc : List ByteArray), i + d = n → acc.length = i → d + 420 ≤ k →
  zj.l0 k (n : Int) acc (i : Int) s a e = some ((xT (fun a => teE s a 0) d a e acc).1, s, (xT (fun a => teE s a 0) d a e acc).2.1, (xT (fun a => teE s a 0) d a e acc).2.2) := by
 induction d with
 | zero =>
  intro k i a e acc hi hl hk
  obtain ⟨k, rfl⟩ : ∃ m, k = m + 1 := ⟨k - 1, by omega⟩
  rw [zj.l0, if_neg (by omega)]
  rfl
 | succ d ih =>
  intro k i a e acc hi hl hk
  obtain ⟨k, rfl⟩ : ∃ m, k = m + 1 := ⟨k - 1, by omega⟩
  rw [zj.l0, if_pos (by omega), xT]
  by_cases he : e = 0
  ·rw [if_pos he, if_pos he, he, zN (XK s hs a 0 k (by omega)), if_pos (by omega), yU (by omega) (by omega)]
   exact ih k (i + 1) _ _ _ (by omega) (by rw [VB, List.length_singleton]; omega) (by omega)
  ·rw [if_neg he, if_neg he]
theorem YU (s : ByteArray) (hs : s.size ≤ 140737488351232) (m : Nat) (hm : m ≤ 1000) (a e : Int) (k : Nat) (hk : 1500 ≤ k) :
  zj.f k s a e (m : Int) = some ((qd (fun a => teE s a 0) m s a e).1, s, (qd (fun a => teE s a 0) m s a e).2.1, (qd (fun a => teE s a 0) m s a e).2.2) := by
 obtain ⟨k, rfl⟩ : ∃ j, k = j + 3 := ⟨k - 3, by omega⟩
 have hbad : ∀ (n : Int) (b x : Int), x ≠ 0 → zj.l0 (k + 1) n [] 0 s b x = some ([], s, b, x) := by
  intro n b x hx
  rw [zj.l0]
  split <;> rfl
 unfold zj.f
 rw [zN (yW s hs a e (k + 3) (by omega))]
 unfold qd
 by_cases h : (y8 s a e).2.2 = 0
 ·rw [if_pos h, if_pos h, zN (xb _ _ _), zj.j0]
  cases hw : wiB (y8 s a e).1 0 (m : Int) with
  | false =>
   rw [if_pos (by rfl), zj.j1, hbad _ _ 6 (by decide), if_neg (by decide)]
  | true =>
   have hb := (jP _ _ _).1 hw
   rw [if_neg (by decide), zj.j1, h, if_pos rfl]
   have := XI s hs (y8 s a e).1.toNat (by omega) (y8 s a e).1.toNat (k + 1) 0 (y8 s a e).2.1 0 [] (by omega) rfl (by omega)
   rw [Int.toNat_of_nonneg hb.1] at this
   exact this
 ·rw [if_neg h, if_neg h, zj.j0, if_neg (by decide), zj.j1, hbad _ _ _ h]
theorem jN {b : Bool} {y z : ByteArray} (h : b = true → y = z) : jx b y = jx b z := by
 cases b with
 | true => rw [h rfl]
 | false => rfl
theorem Yf {α : Type} {B C : α → ByteArray} (l : List α) (h : ∀ x ∈ l, B x = C x) : jp B l = jp C l := by
 induction l with
 | nil => rfl
 | cons x l ih => rw [qj, qj, h x List.mem_cons_self, ih (fun y hy => h y (List.mem_cons_of_mem _ hy))]
theorem QE {α : Type} (T : α → ByteArray × Int) (l : List α) : ∀ acc, (qr T l acc).2 ≠ 0 → (qr T l acc).1 = ⟨#[]⟩ := by
 induction l with
 | nil => intro acc h; exact absurd rfl h
 | cons x l ih =>
  intro acc
  rw [qr]
  split
  ·exact ih _
  ·intro _; rfl
theorem QB (l : List ByteArray) : (qR l).1.size ≤ 10000000 := by
 by_cases h : (qR l).2 = 0
 ·exact XR l h
 ·unfold qR at h ⊢
  split at h
  ·rw [if_pos ‹_›]; exact Nat.zero_le _
  ·rw [if_neg ‹_›, QE _ _ _ h]; exact Nat.zero_le _
theorem XF (l : List ByteArray) (hl : l.length ≤ 256) (h : ∀ x ∈ l, x.size ≤ 4096) : qR l = (yV xM l, 0) := by
 have h1 : ∀ x ∈ l, (qL x).2 = 0 := fun x hx => by rw [qV x (h x hx)]
 unfold qR
 rw [if_neg (by omega), vT _ _ _ h1]
 unfold yV
 have : qE qL l = jp xM l := by
  clear hl
  induction l with
  | nil => rfl
  | cons x l ih => rw [qE, qV x (h x List.mem_cons_self), ih (fun y hy => h y (List.mem_cons_of_mem _ hy)) (fun y hy => h1 y (List.mem_cons_of_mem _ hy))]; rfl
 rw [this]
theorem YR {s : ByteArray} (h : qY s = true) : s.size ≤ 32 := by
 unfold qY at h
 rw [Bool.and_eq_true, decide_eq_true_eq] at h
 exact h.1
theorem Qp {s : ByteArray} (h : qI s = true) : s.size ≤ 32 := by
 unfold qI at h
 rw [Bool.and_eq_true, decide_eq_true_eq] at h
 exact h.1
theorem jh {n a b : Int} (h : wiB n a b = true) (ha : -9223372036854775808 ≤ a) (hb : b ≤ 9223372036854775807) : (Lit.int .i64 n).wf = true := by
 have := (jP _ _ _).1 h
 exact Zc n (by omega) (by omega)
theorem Vk {l : List Int} {m : Int} (h : jC l m = true) : (∀ n ∈ l, (Lit.int .i64 n).wf = true) ∧ (l.length : Int) ≤ m := by
 unfold jC at h
 rw [Bool.and_eq_true, decide_eq_true_eq, List.all_eq_true] at h
 exact ⟨fun n hn => jh (h.1 n hn) (by decide) (by decide), h.2⟩
theorem X2 {c s : Int} {st : ByteArray} (h : vk c s st = true) : (Lit.int .i64 c).wf = true ∧ (Lit.int .i64 s).wf = true ∧ st.size ≤ 32 := by
 unfold vk at h
 rw [Bool.and_eq_true, Bool.and_eq_true] at h
 exact ⟨jh h.1 (by decide) (by decide), jh h.2.1 (by decide) (by decide), YR h.2.2⟩
def vr (l : List Int) : Prop := l.length ≤ 1048576 ∧ ∀ n ∈ l, (Lit.int .i64 n).wf = true
theorem Xx {l : List Int} {m : Int} (h : jC l m = true) (hm : m ≤ 256) : vr l ∧ l.length ≤ 256 := by
 have := Vk h
 exact ⟨⟨by omega, this.1⟩, by omega⟩
theorem ZZ {c s : Int} {st : ByteArray} {r : Int} {l : List Int} {x : Int} (h : vS c s st r l x = true) : (Lit.int .i64 c).wf = true ∧ (Lit.int .i64 s).wf = true ∧ st.size ≤ 32 ∧ (Lit.int .i64 r).wf = true ∧ vr l ∧ l.length ≤ 256 ∧ (Lit.int .i64 x).wf = true := by
 unfold vS at h
 rw [Bool.and_eq_true, Bool.and_eq_true, Bool.and_eq_true] at h
 have h1 := X2 h.1
 have h2 := Xx h.2.2.1 (by decide)
 exact ⟨h1.1, h1.2.1, h1.2.2, jh h.2.1 (by decide) (by decide), h2.1, h2.2, jh h.2.2.2 (by decide) (by decide)⟩
def Za (x : S81) : Prop := (Lit.int .i64 x.f0).wf = true ∧ vr x.f1
theorem ev_wf {x : S81} (h : evB x = true) : Za x ∧ x.f1.length ≤ 256 := by
 unfold evB at h
 rw [Bool.and_eq_true] at h
 have h2 := Xx h.2 (by decide)
 exact ⟨⟨jh h.1 (by decide) (by decide), h2.1⟩, h2.2⟩
theorem Qv {l : List S81} (h : vU l = true) : l.length ≤ 3 ∧ ∀ x ∈ l, Za x ∧ x.f1.length ≤ 256 := by
 unfold vU at h
 rw [Bool.and_eq_true, decide_eq_true_eq, List.all_eq_true] at h
 exact ⟨by omega, fun x hx => ev_wf (h.1 x hx)⟩
theorem Zb {c s : Int} {st : ByteArray} {r : Int} {l : List S81} (h : vH c s st r l = true) : (Lit.int .i64 c).wf = true ∧ (Lit.int .i64 s).wf = true ∧ st.size ≤ 32 ∧ (Lit.int .i64 r).wf = true ∧ l.length ≤ 3 ∧ ∀ x ∈ l, Za x ∧ x.f1.length ≤ 256 := by
 unfold vH at h
 rw [Bool.and_eq_true, Bool.and_eq_true, Bool.and_eq_true] at h
 have h1 := X2 h.1
 have h2 := Qv h.2.2.1
 exact ⟨h1.1, h1.2.1, h1.2.2, jh h.2.1 (by decide) (by decide), h2.1, h2.2⟩
theorem YG {α : Type} {P : α → Bool} {R : α → α → Bool} (l : List α) : ∀ o, xu P R o l = true → ∀ x ∈ l, P x = true := by
 induction l with
 | nil => intro o _ x hx; cases hx
 | cons y l ih =>
  intro o h x hx
  have h2 : P y = true ∧ xu P R (some y) l = true := by
   cases o with
   | none => rw [xu, Bool.and_eq_true] at h; exact h
   | some p => rw [xu, Bool.and_eq_true, Bool.and_eq_true] at h; exact ⟨h.1, h.2.2⟩
  rcases List.mem_cons.1 hx with rfl | hx
  ·exact h2.1
  ·exact ih _ h2.2 x hx
def ZB (x : S93) : Prop := x.f0.size ≤ 140737488351232 ∧ (Lit.int .i64 x.f1.f0).wf = true ∧ (Lit.int .i64 x.f1.f1).wf = true ∧ vr x.f1.f2
theorem it_wf {x : S93} (h : itB x = true) : ZB x ∧ x.f0.size ≤ 32 ∧ x.f1.f2.length ≤ 256 := by
 unfold itB staB at h
 rw [Bool.and_eq_true, Bool.and_eq_true, Bool.and_eq_true] at h
 have h1 := YR h.1
 have h2 := Xx h.2.2.1 (by decide)
 exact ⟨⟨by omega, jh h.2.1 (by decide) (by decide), jh h.2.2.2 (by decide) (by decide), h2.1⟩, h1, h2.2⟩
theorem jq {l : List S93} (h : q8 l = true) : l.length ≤ 64 ∧ ∀ x ∈ l, ZB x ∧ x.f0.size ≤ 32 ∧ x.f1.f2.length ≤ 256 := by
 unfold q8 at h
 rw [Bool.and_eq_true, decide_eq_true_eq] at h
 exact ⟨by omega, fun x hx => it_wf (YG l none h.1 x hx)⟩
def veOK (x : S97) : Prop := (Lit.int .i64 x.f0).wf = true ∧ (Lit.int .i64 x.f1).wf = true
theorem ju {l : List S97} (h : qp l = true) : l.length ≤ 32 ∧ ∀ x ∈ l, veOK x := by
 unfold qp at h
 rw [Bool.and_eq_true, decide_eq_true_eq] at h
 refine ⟨by omega, fun x hx => ?_⟩
 have h2 := YG l none h.1 x hx
 unfold Zw at h2
 rw [Bool.and_eq_true] at h2
 exact ⟨jh h2.1 (by decide) (by decide), jh h2.2 (by decide) (by decide)⟩
theorem ZY {l : List ByteArray} (h : vO l = true) : l.length ≤ 8 ∧ ∀ x ∈ l, x.size ≤ 32 := by
 unfold vO at h
 rw [Bool.and_eq_true, decide_eq_true_eq, List.all_eq_true] at h
 exact ⟨h.1, fun x hx => Qp (h.2 x hx)⟩
def Zz (c s : Int) (st : ByteArray) (r : Int) (l : List Int) (x : Int) : ByteArray := ((((yo c ++ yo s) ++ xM st) ++ yo r) ++ yV yo l) ++ yo x
theorem XJ (c s : Int) (st : ByteArray) (r : Int) (l : List Int) (x : Int) (h1 : (Lit.int .i64 c).wf = true) (h2 : (Lit.int .i64 s).wf = true) (h3 : st.size ≤ 140737488351232) (h4 : (Lit.int .i64 r).wf = true) (h5 : vr l) (h6 : (Lit.int .i64 x).wf = true) (k : Nat) (hk : 3000000 ≤ k) :
  zX.f k c s st r l x = some (jx (vS c s st r l x) (Zz c s st r l x)) := by
 have b1 := yk c
 have b2 := yk s
 have b3 := qs st
 have b4 := yk r
 have b5 := jt l
 have e1 := jI c s h1 h2 ⟨#[]⟩ (by decide) k (by omega)
 rw [jy, Zg] at e1
 unfold zX.f
 rw [zN e1, zN (jn st h3 _ (by simp only [ya]; omega)), zN (qt r h4 _ (by simp only [ya]; omega) k (by omega)), zN (qP l h5.2 _ (by simp only [ya]; omega)), zN (Xh c s st r l x (by have := h5.1; omega) k (by have := h5.1; omega)), zN (qt x h6 _ (by simp only [ya]; omega) k (by omega)), zN (jz _ _)]
 refine congrArg some (jN fun hb => ?_)
 obtain ⟨_, _, g3, _, _, g6, _⟩ := ZZ hb
 rw [qV st (by omega), qO l g6]
 rfl
def evZ (x : S81) : ByteArray := yo x.f0 ++ (xn x.f1).1
theorem Jd (x : S81) : (evZ x).size ≤ 10000010 := by
 have h1 := yk x.f0
 have h2 := jt x.f1
 unfold evZ
 rw [ya]
 omega
theorem YX (x : S81) (h : Za x) (a : ByteArray) (ha : a.size + 10000030 < 140737488355328) (k : Nat) (hk : 3 ≤ k) : yP.f k (bytesOf a) x.f0 x.f1 = some (bytesOf (a ++ evZ x)) := by
 have h1 := yk x.f0
 unfold yP.f
 rw [zN (qt x.f0 h.1 a (by omega) k hk), zN (qP x.f1 h.2.2 _ (by rw [ya]; omega)), xF]
 rfl
theorem YB (l : List S81) (hl : l.length ≤ 1048576) (h : ∀ x ∈ l, Za x) (a : ByteArray) (ha : a.size ≤ 100000000) (k : Nat) (hk : 3000000 ≤ k) : yf.f k (bytesOf a) l = some (bytesOf (a ++ yV evZ l)) := by
 have h1 := yk (l.length : Int)
 unfold yf.f
 rw [zN (qt (l.length : Int) (Zc _ (by omega) (by omega)) a (by omega) k (by omega)), ZS _ evZ 10000030 l _ (fun x _ => Nat.le_trans (Jd x) (by decide)) (fun x hx b hb => YX x (h x hx) b hb k (by omega)) (by rw [ya]; omega), xF]
 rfl
theorem QM (l : List S81) (h : vU l = true) : yV evZ l = yV evY l := by
 unfold yV
 rw [Yf l (fun x hx => ?_)]
 unfold evZ evY
 rw [qO x.f1 ((Qv h).2 x hx).2]
theorem evsz {l : List S81} (h : ∀ x ∈ l, Za x) : ∀ x ∈ l, x.f1.length + 1 ≤ 1048577 ∧ x.f1.length < 9223372036854775807 := fun x hx => by
 have := (h x hx).2.1
 omega
def Zy (c s : Int) (st : ByteArray) (r : Int) (l : List S81) : ByteArray := (((yo c ++ yo s) ++ xM st) ++ yo r) ++ yV evY l
theorem Yr (c s : Int) (st : ByteArray) (r : Int) (l : List S81) (h1 : (Lit.int .i64 c).wf = true) (h2 : (Lit.int .i64 s).wf = true) (h3 : st.size ≤ 140737488351232) (h4 : (Lit.int .i64 r).wf = true) (hl : l.length ≤ 1048576) (h : ∀ x ∈ l, Za x) (k : Nat) (hk : 3000000 ≤ k) :
  yn.f k c s st r l = some (jx (vH c s st r l) (Zy c s st r l)) := by
 have b1 := yk c
 have b2 := yk s
 have b3 := qs st
 have b4 := yk r
 have e1 := jI c s h1 h2 ⟨#[]⟩ (by decide) k (by omega)
 rw [jy, Zg] at e1
 unfold yn.f
 rw [zN e1, zN (jn st h3 _ (by simp only [ya]; omega)), zN (qt r h4 _ (by simp only [ya]; omega) k (by omega)), zN (Zs c s st r l (by omega) 1048577 (evsz h) k (by omega)), zN (YB l hl h _ (by simp only [ya]; omega) k hk), zN (jz _ _)]
 refine congrArg some (jN fun hb => ?_)
 obtain ⟨_, _, g3, _, _, _⟩ := Zb hb
 have he : vU l = true := by
  unfold vH at hb
  rw [Bool.and_eq_true, Bool.and_eq_true, Bool.and_eq_true] at hb
  exact hb.2.2.1
 rw [qV st (by omega), QM l he]
 rfl
def itZ (x : S93) : ByteArray := (qL x.f0).1 ++ ((yo x.f1.f0 ++ yo x.f1.f1) ++ (xn x.f1.f2).1)
theorem JH (x : S93) : (itZ x).size ≤ 10004126 := by
 have h1 := qs x.f0
 have h2 := yk x.f1.f0
 have h3 := yk x.f1.f1
 have h4 := jt x.f1.f2
 unfold itZ
 rw [ya, ya, ya]
 omega
theorem XA (x : S93) (h : ZB x) (a : ByteArray) (ha : a.size + 10008126 < 140737488355328) (k : Nat) (hk : 3 ≤ k) : yF.f k (bytesOf a) x.f0 x.f1.f0 x.f1.f1 x.f1.f2 = some (bytesOf (a ++ itZ x)) := by
 have h1 := qs x.f0
 have h2 := yk x.f1.f0
 have h3 := yk x.f1.f1
 unfold yF.f
 rw [zN (jn x.f0 h.1 a (by omega)), zN (jI x.f1.f0 x.f1.f1 h.2.1 h.2.2.1 _ (by rw [ya]; omega) k hk), zN (qP x.f1.f2 h.2.2.2.2 _ (by rw [ya, ya, ya]; omega)), xF, xF]
 rfl
theorem YV (l : List S93) (hl : l.length ≤ 1048576) (h : ∀ x ∈ l, ZB x) (a : ByteArray) (ha : a.size ≤ 100000000) (k : Nat) (hk : 3000000 ≤ k) : yC.f k (bytesOf a) l = some (bytesOf (a ++ yV itZ l)) := by
 have h1 := yk (l.length : Int)
 unfold yC.f
 rw [zN (qt (l.length : Int) (Zc _ (by omega) (by omega)) a (by omega) k (by omega)), ZS _ itZ 10008126 l _ (fun x _ => Nat.le_trans (JH x) (by decide)) (fun x hx b hb => XA x (h x hx) b hb k (by omega)) (by rw [ya]; omega), xF]
 rfl
theorem Q2 (l : List S93) (h : q8 l = true) : yV itZ l = yV itY l := by
 unfold yV
 rw [Yf l (fun x hx => ?_)]
 obtain ⟨_, h1, h2⟩ := (jq h).2 x hx
 unfold itZ itY
 rw [qO x.f1.f2 h2, qV x.f0 (by omega), xF, xF, xF]
theorem itsz {l : List S93} (hs : ∀ x ∈ l, x.f0.size ≤ 1048576) (h : ∀ x ∈ l, ZB x) : ∀ x ∈ l, x.f1.f2.length + 300 ≤ 2097200 ∧ x.f1.f2.length < 9223372036854775807 ∧ x.f0.size ≤ 140737488351232 ∧ 2 * x.f0.size + 2 ≤ 2097200 := fun x hx => by
 have h1 := (h x hx).2.2.2.1
 have h2 := hs x hx
 omega
theorem Y0 (l : List S93) (hl : l.length ≤ 524288) (hs : ∀ x ∈ l, x.f0.size ≤ 1048576) (h : ∀ x ∈ l, ZB x) (k : Nat) (hk : 3000000 ≤ k) : xX.f k l = some (jx (q8 l) (yV itY l)) := by
 have e1 := YV l (by omega) h ⟨#[]⟩ (by decide) k hk
 rw [jy, Zg] at e1
 unfold xX.f
 rw [zN (Z8 l (by omega) 2097200 (itsz hs h) k (by omega)), zN e1, zN (jz _ _)]
 exact congrArg some (jN fun hb => Q2 l hb)
theorem Xt (x : S97) : (veY x).size ≤ 20 := by
 have h2 := yk x.f0
 have h3 := yk x.f1
 unfold veY
 rw [ya]
 omega
theorem Yq (l : List S97) (hl : l.length ≤ 1048576) (h : ∀ x ∈ l, veOK x) (d : Nat) : ∀ (k i : Nat) (acc : ByteArray), i + d = l.length → d + 10 ≤ k → acc.size ≤ 100000000 + 20 * i →
  zR.l0 k (bytesOf acc) l (l.length : Int) (i : Int) = some (bytesOf (acc ++ jp veY (l.drop i))) := by
 induction d with
 | zero =>
  intro k i acc hi hk ha
  obtain ⟨k, rfl⟩ : ∃ m, k = m + 1 := ⟨k - 1, by omega⟩
  rw [zR.l0, if_neg (by omega), List.drop_of_length_le (by omega), jV, ji]
 | succ d ih =>
  intro k i acc hi hk ha
  obtain ⟨k, rfl⟩ : ∃ m, k = m + 1 := ⟨k - 1, by omega⟩
  have hlt : i < l.length := by omega
  have hx := h _ (List.getElem_mem hlt)
  have hz := Xt l[i]
  have e : xA.f k (bytesOf acc) l[i].f0 l[i].f1 = some (bytesOf (acc ++ veY l[i])) := by
   unfold xA.f
   rw [zN (jI _ _ hx.1 hx.2 acc (by omega) k (by omega))]
   rfl
  rw [zR.l0, if_pos (by omega), if_pos (by omega), if_pos (by omega), Xu l i hlt, zN e, yU (by omega) (by omega), List.drop_eq_getElem_cons hlt, qj, ← xF]
  exact ih k (i + 1) (acc ++ veY l[i]) (by omega) (by omega) (by rw [ya]; omega)
theorem ZE (l : List S97) (hl : l.length ≤ 1048576) (h : ∀ x ∈ l, veOK x) (k : Nat) (hk : 3000000 ≤ k) : xO.f k l = some (jx (qp l) (yV veY l)) := by
 have h1 := yk (l.length : Int)
 have e1 := qt (l.length : Int) (Zc _ (by omega) (by omega)) ⟨#[]⟩ (by decide) k (by omega)
 rw [jy, Zg] at e1
 have e2 := Yq l hl h l.length k 0 (yo (l.length : Int)) (by omega) (by omega) (by omega)
 rw [List.drop_zero] at e2
 have e3 : zR.f k ([] : List Int) l = some (bytesOf (yV veY l)) := by
  unfold zR.f
  rw [zN e1]
  exact e2
 unfold xO.f
 rw [zN (vL l (by omega) k (by omega)), zN e3, zN (jz _ _)]
theorem YA (l : List ByteArray) (hl : l.length ≤ 1048576) (h : ∀ x ∈ l, x.size ≤ 140737488351232) (k : Nat) (hk : 3000000 ≤ k) : xN.f k l = some (jx (vO l) (yV xM l)) := by
 obtain ⟨r, e1, e2⟩ := ZO l (by omega) k (by omega)
 have h1 := QB l
 unfold xN.f
 rw [zN e1, zN (Qc l h), if_pos (by omega), e2, jz]
 refine congrArg some (jN fun hb => ?_)
 obtain ⟨g1, g2⟩ := ZY hb
 rw [XF l (by omega) (fun x hx => by have := g2 x hx; omega)]
theorem JX (l : List Int) (d : Nat) : ∀ (k i : Nat), i + d = l.length → l.length ≤ 1000000 → d < k → z7.l0 k l l (i : Int) = some true := by
 induction d with
 | zero =>
  intro k i hi hl hk
  obtain ⟨k, rfl⟩ : ∃ k', k = k' + 1 := ⟨k - 1, by omega⟩
  rw [z7.l0, if_neg (by omega)]
 | succ d ih =>
  intro k i hi hl hk
  obtain ⟨k, rfl⟩ : ∃ k', k = k' + 1 := ⟨k - 1, by omega⟩
  rw [z7.l0, if_pos (by omega), if_pos (by omega), if_pos (by omega), if_pos rfl, yU (by omega) (by omega)]
  exact ih k (i + 1) (by omega) hl (by omega)
theorem vY (l : List Int) (hl : l.length ≤ 256) (k : Nat) (hk : 300 ≤ k) : z7.f k l l = some true := by
 unfold z7.f
 rw [if_pos rfl]
 exact JX l l.length k 0 (by omega) (by omega) (by omega)
theorem Ji (l : List ByteArray) (d : Nat) : ∀ (k i : Nat), i + d = l.length → l.length ≤ 1000000 → d < k → yD.l0 k l l (i : Int) = some true := by
 induction d with
 | zero =>
  intro k i hi hl hk
  obtain ⟨k, rfl⟩ : ∃ k', k = k' + 1 := ⟨k - 1, by omega⟩
  rw [yD.l0, if_neg (by omega)]
 | succ d ih =>
  intro k i hi hl hk
  obtain ⟨k, rfl⟩ : ∃ k', k = k' + 1 := ⟨k - 1, by omega⟩
  rw [yD.l0, if_pos (by omega), if_pos (by omega), if_pos (by omega), if_pos rfl, yU (by omega) (by omega)]
  exact ih k (i + 1) (by omega) hl (by omega)
theorem Qr (l : List ByteArray) (hl : l.length ≤ 256) (k : Nat) (hk : 300 ≤ k) : yD.f k l l = some true := by
 unfold yD.f
 rw [if_pos rfl]
 exact Ji l l.length k 0 (by omega) (by omega) (by omega)
end Go.Proofs.Ytbfehjncllkogaa.Q
