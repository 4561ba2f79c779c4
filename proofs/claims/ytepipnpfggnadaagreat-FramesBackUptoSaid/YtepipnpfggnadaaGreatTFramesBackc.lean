/- Texts of this session laid together (shrink.py): what the claim's law rests on. -/
import Derived.Below
import Derived.Deep.Draws
import Derived.Deep.AppendLies
import Derived.Maps.AppendAt
import Derived.OwnWalk
import Derived.Laws.BytesArg
import Derived.Laws.MakeOwn
import Derived.Laws.OwnMore
import Derived.Deep.OwnRows
import Derived.Tactics
import Derived.Lib.ConvBytes
import Derived.Laws.Slices
import Derived.WalkKit
import Derived.KernelRfl
import Derived.RowKit3
import Derived.Deep.LoopGhost
import Derived.Deep.QuietTactic
import Derived.BigQuiet
import Derived.WideLaws
import Derived.Deep.DeepCutAuto
import Derived.Deep.CutBlock
import Derived.Deep.RegionHeld3
import Derived.Laws.Rows
import Derived.Lib.AppendStr
import Derived.ArgAppend
import Derived.Laws.IdiomCopy
import Derived.RowKit
import Derived.OrdersHeld
import Derived.Laws.BitsLemmas
import Derived.Laws.StructEq
import Derived.Test.YtepipnpfggnadaaGreatProg
import Derived.WalkMore
import Derived.Lib.Strings
import Derived.Test.YtepipnpfggnadaaGreatTFramesBackb
set_option linter.unusedVariables false
set_option linter.unusedSimpArgs false
set_option maxRecDepth 100000
set_option maxHeartbeats 8000000
open Bool renaming true → O, false → Y
open List renaming setIfInBounds_toArray → zdF
open List renaming set_cons_zero → zdG
open List renaming set_cons_succ → zdH
open List renaming map_toArray → zdI
open Option renaming bind_eq_some_iff → zdJ
open Go.World renaming block_lt_of_cell? → zdK
open Bool renaming eq_false_iff → zdL
open List renaming length_append → zdM
namespace Go.Proofs.YtepipnpfggnadaaGreat.Q
open Go.RowKit Go.Proofs.YtepipnpfggnadaaGreatW.PrintWords Go.Proofs.YtepipnpfggnadaaGreatW.PrintLast Go.Proofs.YtepipnpfggnadaaGreatW.PrintMore
theorem YK (x : Int) (s : ByteArray) (e2 : Int) (w : World) (h : (zX.f x).map (fun t => (t, (0 : Int))) = some (s, e2)) :
  Calls Tryz.prog 180 #[.int .i64 x] w fun e w' => e = .returned (.tuple #[.string s, .int .i64 e2]) ∧ Below w.heap.size w w' := by
 rw [Option.map_eq_some_iff] at h
 obtain ⟨t, ht, h⟩ := h
 simp only [Prod.mk.injEq] at h
 obtain ⟨rfl, rfl⟩ := h
 exact qM.calls x t 0 w (by unfold qM.f; rw [zD ht])
theorem zaJ (k : Nat) (A : Option Addr) (c : Nat) (l : List Int) (t0 : ByteArray) (r1 : ByteArray) (r2 : Int) (w : World) (hr : Kd.C (Kd.int .i64) w A l.length l) (hc : l.length ≤ c) (hl : l.length ≤ 256) (ht : zX.f (l.length : Int) = some t0) (h0 : t0.size ≤ 140737488351232) (h : jm (fun x => (zX.f x).map (fun t => (t, (0 : Int)))) l (bytesOf t0) = some (r1, r2)) :
  Calls Tryz.prog 179 #[.slice A l.length c, .func (Fn.func 180) #[] #[]] w fun e w' => e = .returned (.tuple #[.string r1, .int .i64 r2]) ∧ Below w.heap.size w w' := by
 have HT := za.mk ht
 have HL := za.mk h
 have HR := za.mk hr
 have hcv := fun W : World => Lib.run_convert_string_bytes (P := Tryz.prog) W 9 41 5 t0 Tryz.underlying9 Tryz.underlying41 Tryz.underlying5
 clear ht h hr
 obtain ⟨i0, hi, hz0, hz1, hz2⟩ := info_parts Jp
 go_enter Tryz.func179, Tryz.ntmps179
 go_wp2_with (first | (go_at_call 57; refine (zX.calls (l.length : Int) t0 _ HT.out).mono ?_; rintro e w1 ⟨rfl, hb⟩; have HB1 := za.mk hb; have HM1 := za.mk (yv.of_bytes w1 w.heap.size 5 t0 HB1.out.size (by simp only [maxLen]; omega)); have HB2 := za.mk (xW HB1.out HB1.out.size 5 t0)))
 have hcv0 := za.mk hcv
 clear hcv
 go_loopg [6, 20] l.length (fun kq vb vi wr => ∃ (i : Nat) (xs : List Int), vi = .int .i64 i ∧ za (i + kq = l.length) ∧ za (jm (fun x => (zX.f x).map (fun t => (t, (0 : Int)))) (l.drop i) xs = some (r1, r2)) ∧ za (yv wr w.heap.size 5 vb (yp .u8 xs)) ∧ za (Below w.heap.size w wr))
 case atStart => exact ⟨0, bytesOf t0, rfl, ⟨by simp⟩, ⟨by rw [List.drop_zero]; exact HL.out⟩, ⟨by rw [← xQ]; exact HM1.out⟩, HB2⟩
 case round =>
  clear HB2 HM1
  obtain ⟨i, xs, rfl, HK, HO, HM, HB⟩ := hrel
  have hil : i ≤ l.length := by have := HK.out; omega
  by_cases hlt : i < l.length
  ·obtain ⟨ad, ea, hcell⟩ := Kd.at_int HR.out (i : Int) (by omega) (by omega)
   cases ea
   replace hcell := (HB.out.cell (zdK w _ hcell)).trans hcell
   rw [Int.toNat_natCast] at hcell
   obtain ⟨x, hx⟩ : ∃ x, x = rd l (i : Int) := ⟨_, rfl⟩
   rw [← hx] at hcell
   have ho := HO.out
   rw [List.drop_eq_getElem_cons hlt, jm, zdJ] at ho
   rw [Jk l i hlt] at hx
   rw [← hx] at ho
   obtain ⟨⟨s, e2⟩, hs, ho⟩ := ho
   have HS := za.mk hs
   have HO2 := za.mk ho
   clear hs ho hx HO
   by_cases he : e2 = 0
   ·subst he
    have ho := HO2.out
    rw [if_pos rfl] at ho
    by_cases hfit : xs.length + s.size ≤ 140737488355328
    ·rw [if_pos hfit] at ho
     have HO3 := za.mk ho
     have HF := za.mk hfit
     clear ho HO2 hfit
     go_wp2_with (first
      | (go_at_call 180; refine (YK x s 0 _ HS.out).mono ?_; rintro e w2 ⟨rfl, hb⟩; have HB3 := za.mk (Below.trans HB.out (hb.mono HB.out.size)); have HM3 := za.mk (HM.out.below hb); clear hb HB HM)
      | ((with_reducible refine zJ (N := 35) rfl ?_); refine yG _ rfl (.tmp 33) (.tmp 34) 41 9 rfl w.heap.size 5 i0 Tryz.underlying41 Tryz.underlying9 hi hz0 hz1 hz2 _ (yp .u8 xs) rfl HM3.out s rfl (by rw [xw]; exact HF.out) HB3.out.size ?_; intro v1 w3 hm1 hg1; rw [qO] at hm1; have HM4 := za.mk hm1; have HB4 := za.mk (HB3.out.grown hg1 HB3.out.size (fun k hk => HM3.out.base_le k hk)); clear hm1 hg1))
     go_roundg (l.length - (i + 1))
     case measure => have := HK.out; omega
     case rel => exact ⟨i + 1, xs ++ bytesOf s, by go_num, ⟨by omega⟩, HO3, HM4, HB4⟩
    ·rw [if_neg hfit] at ho
     cases ho
   ·have ho := HO2.out
    rw [if_neg he] at ho
    simp only [Option.some.injEq, Prod.mk.injEq] at ho
    obtain ⟨rfl, rfl⟩ := ho
    go_wp2_with (go_at_call 180; refine (YK x s e2 _ HS.out).mono ?_; rintro e w2 ⟨rfl, hb⟩; have HB3 := za.mk (Below.trans HB.out (hb.mono HB.out.size)); clear hb)
    go_ret2
    exact ⟨rfl, HB3.out⟩
  ·obtain rfl : i = l.length := by omega
   have ho := HO.out
   rw [List.drop_length, jm] at ho
   simp only [Option.some.injEq, Prod.mk.injEq] at ho
   obtain ⟨hs, rfl⟩ := ho
   have hcs := yv.to_string (P := Tryz.prog) Tryz.underlying41 Tryz.underlying5 Tryz.underlying9 HM.out
   rw [hs] at hcs
   clear hs
   go_wp2
   go_ret2
   exact ⟨rfl, HB.out⟩
def xr.f (l : List Int) : Option (ByteArray × Int) :=
 if 256 < l.length then some (⟨#[]⟩, 4) else (zX.f (l.length : Int)).bind fun t => jm (fun x => (zX.f x).map (fun t => (t, (0 : Int)))) l (bytesOf t)
set_option maxHeartbeats 1000000 in
theorem xr.calls (A : Option Addr) (c : Nat) (l : List Int) (r1 : ByteArray) (r2 : Int) (w : World) (hr : Kd.C (Kd.int .i64) w A l.length l) (hc : l.length ≤ c) (h : xr.f l = some (r1, r2)) :
  Calls Tryz.prog 168 #[.slice A l.length c] w fun e w' => e = .returned (.tuple #[.string r1, .int .i64 r2]) ∧ Below w.heap.size w w' := by
 have hbig : 256 < l.length → Calls Tryz.prog 179 #[.slice A l.length c, .func (Fn.func 180) #[] #[]] w fun e w' => e = .returned (.tuple #[.string ⟨#[]⟩, .int .i64 4]) ∧ Below w.heap.size w w' := by
  intro hb
  go_enter Tryz.func179, Tryz.ntmps179
  go_wp2
  go_ret2
  exact ⟨rfl, Below.refl _ _⟩
 have HC : za (Calls Tryz.prog 179 #[.slice A l.length c, .func (Fn.func 180) #[] #[]] w fun e w' => e = .returned (.tuple #[.string r1, .int .i64 r2]) ∧ Below w.heap.size w w') := by
  unfold xr.f at h
  by_cases hb : 256 < l.length
  ·rw [if_pos hb] at h
   simp only [Option.some.injEq, Prod.mk.injEq] at h
   obtain ⟨rfl, rfl⟩ := h
   exact ⟨hbig hb⟩
  ·rw [if_neg hb, zdJ] at h
   obtain ⟨t, ht, h⟩ := h
   have hz : t.size ≤ 140737488351232 := by
    unfold zX.f at ht
    split at ht
    ·obtain rfl := Option.some.inj ht
     have := zN (l.length : Int)
     omega
    ·cases ht
   exact ⟨zaJ 0 A c l t r1 r2 w hr hc (by omega) ht hz h⟩
 clear hbig h hr
 go_enter Tryz.func168, Tryz.ntmps168
 go_wp2_with (go_at_call 179; refine HC.out.mono ?_; rintro e w1 ⟨rfl, hb⟩; have HB := za.mk hb; clear hb)
 go_ret2
 exact ⟨rfl, HB.out⟩
attribute [local go_sem] jG jE vD vr ja je jK jJ
def yn.f (l0 : List Int) (l1 : List Int) : Option (List Int) := (xr.f l1).bind fun bt304 => (if l0.length + bt304.1.size < 140737488355328 then (some (l0 ++ bytesOf bt304.1)) else (none))
theorem yn.calls (P0_ : Nat → Prop) (u9000_ : Value) (l0 : List Int) (A1 : Option Addr) (c1 : Nat) (l1 : List Int) (r : List Int) (w0 w : World) (hB : Below w0.heap.size w0 w) (ho0 : Kd.R (Kd.int .u8) 5 w w0.heap.size P0_ u9000_ l0) (hr1 : ∀ W_, zi w W_ (fun k_ => P0_ k_) → Kd.C (Kd.int .i64) W_ A1 l1.length l1) (hc1 : l1.length ≤ c1) (h : yn.f l0 l1 = some r) :
  Calls Tryz.prog 135 #[u9000_, .slice A1 l1.length c1] w fun e w' => ∃ v0_ : Value, e = .returned (v0_) ∧ Kd.R (Kd.int .u8) 5 w' w0.heap.size (fun k_ => (P0_ k_ ∨ w.heap.size ≤ k_)) v0_ r ∧ Below w0.heap.size w0 w' ∧ zi w w' (fun k_ => P0_ k_) := by
 have HO0 := za.mk (show Kd.R (Kd.int .u8) 5 w w0.heap.size (fun k_ => (P0_ k_ ∨ w.heap.size ≤ k_)) u9000_ l0 from Kd.R_mono ho0 (fun k_ hk => (.inl hk)))
 have HR1 := za.mk hr1
 have HC1 := za.mk hc1
 clear hr1 hc1
 have HK := za.mk (zi.refl w (fun k_ => P0_ k_))
 have HW0 := za.mk hB.size
 have HB := za.mk hB
 clear hB
 have H : ((xr.f l1).bind fun bt304 => (if l0.length + bt304.1.size < 140737488355328 then (some (l0 ++ bytesOf bt304.1)) else (none))) = some r := h
 clear h
 replace H := zdJ.mp H
 obtain ⟨⟨t304, t305⟩, A30, H⟩ := H
 replace H : (if l0.length + t304.size < 140737488355328 then (some (l0 ++ bytesOf t304)) else (none)) = some r := H
 have A3 := za.mk A30
 clear A30
 by_cases c4 : l0.length + t304.size < 140737488355328
 ·rw [if_pos c4] at H
  have LMc4 := za.mk c4
  clear c4
  obtain ⟨y306, hy306⟩ : ∃ y_ : List Int, y_ = (l0 ++ bytesOf t304) := ⟨_, rfl⟩
  replace H : (some y306) = some r := by first | (rw [hy306]; with_reducible exact H) | (have H2_ := (Option.bind_some _ _).symm.trans H; rw [hy306]; with_reducible exact H2_) | (have H2_ := (Option.bind_some _ _).symm.trans H; with_reducible exact H2_) | with_reducible exact H | (rw [hy306]; exact H) | exact H
  have Ny306 := za.mk hy306
  clear hy306
  obtain rfl := Option.some.inj H
  go_enter Tryz.func135, Tryz.ntmps135
  go_wp2_with (first | ((with_reducible refine zy (f := 168) rfl ?_); refine zU (some 9) rfl rfl Tryz.func168 (by kernel_rfl) rfl #[.slice A1 l1.length c1] rfl (by (try simp only [zdI, List.map_cons, List.map_nil]); first | done | rfl | (simp only [List.length_drop, List.length_take]; rfl)) ?_; (with_reducible refine (xr.calls _ _ l1 t304 t305 _ ?side1 ?side2 A3.out).mono ?_); (case side1 => exact Kd.C_kept_now HR1.out (by repeat (first | (with_reducible first | exact HK.out | apply zi.alloc | apply zi.drewN | apply zi.drew) | exact HK.out))); (case side2 => exact HC1.out); rintro e w5 ⟨rfl, hb⟩; refine ⟨_, rfl, ?_⟩; have n0_ := za.mk (Kd.R_below (by (with_reducible repeat (first | apply Kd.R_alloc | apply Kd.R_drewN | apply Kd.R_drew)); exact HO0.out) hb); have n1_ := za.mk (zi.below (S := (fun k_ => P0_ k_)) (by repeat (first | (with_reducible first | exact HK.out | apply zi.alloc | apply zi.drewN | apply zi.drew) | exact HK.out)) hb); have n2_ := za.mk (zp (by repeat (first | (with_reducible first | exact HB.out | apply zc | apply zb | apply zd) | exact HB.out)) hb); clear HO0; clear HK; clear HB; have HO0 := n0_; have HK := n1_; have HB := n2_; clear n0_ n1_ n2_; (try clear hb); (try clear hb2); (try clear hk); (try clear hi)) | (at_builtin; refine jj (w0 := w0) w0.heap.size rfl (.tmp 12) _ 41 9 5 rfl Tryz.underlying41 Tryz.underlying9 XU u9000_ l0 t304 rfl rfl ?aO ?aB ?aS ?aL ?_; (case aB => exact (by repeat (first | (with_reducible first | exact HB.out | apply zc | apply zb | apply zd) | exact HB.out))); (case aO => exact (Kd.own_of_R (by (with_reducible repeat (first | apply Kd.R_alloc | apply Kd.R_drewN | apply Kd.R_drew)); exact HO0.out))); (case aS => exact (zG (by repeat (first | (with_reducible first | exact HB.out | apply zc | apply zb | apply zd) | exact HB.out)))); (case aL => have := LMc4.out; omega); intro v307 w6 ho0 hb hg hat; have ho := Kd.R_of_own (h1 := fun _ => rfl) (ok := (fun k_ => (P0_ k_ ∨ w.heap.size ≤ k_))) ho0 (fun k_ hk_ => Or.elim hat (fun h1_ => HO0.out.1 k_ (h1_.symm.trans hk_)) (fun h2_ => (fun k_ hk => (.inr (Nat.le_trans (by first | exact HK.out.1 | exact (show zi w _ (fun k_ => P0_ k_) from by repeat (first | (with_reducible first | exact HK.out | apply zi.alloc | apply zi.drewN | apply zi.drew) | exact HK.out)).1) hk))) k_ (by obtain ⟨b_, hb_, hl_⟩ := h2_; rw [hb_] at hk_; cases hk_; exact hl_))); clear ho0; rw [← Ny306.out] at ho; change Kd.R (Kd.int .u8) 5 w6 w0.heap.size (fun k_ => (P0_ k_ ∨ w.heap.size ≤ k_)) v307 y306 at ho; have n0_ := za.mk (hb); have n1_ := za.mk (zi.of_grown (S := (fun k_ => P0_ k_)) hg (by repeat (first | (with_reducible first | exact HK.out | apply zi.alloc | apply zi.drewN | apply zi.drew) | exact HK.out)) (fun k_ e_ => (HO0.out.1 k_ e_))); have n2_ := za.mk (ho); clear HB; clear HK; clear HO0; have HB := n0_; have HK := n1_; have HO308 := n2_; clear n0_ n1_ n2_; clear ho hb hg hat))
  go_ret
  exact ⟨_, by first | rfl | (simp [zn, zo] <;> rfl) | (simp [*, zn, zo] <;> rfl), by (with_reducible repeat (first | apply Kd.R_alloc | apply Kd.R_drewN | apply Kd.R_drew)); exact HO308.out, by repeat (first | (with_reducible first | exact HB.out | apply zc | apply zb | apply zd) | exact HB.out), by repeat (first | (with_reducible first | exact HK.out | apply zi.alloc | apply zi.drewN | apply zi.drew) | exact HK.out)⟩
 ·rw [if_neg c4] at H
  exact absurd H (by simp)
def yf.f (k : Nat) (l0 : List Int) (a1_0 : ByteArray) (a1_1 : Int) (a1_2 : Int) (l1_3 : List Int) : Option (List Int) := (xM.f l0 a1_0).bind fun t347 => ((zu.f k t347 (([a1_1, a1_2] : List Int))).bind fun t353 => ((yn.f t353 l1_3).bind fun t356 => (some t356)))
def yf.T1 : Bool × List (List Nat × List Nat) := (true, [([], []), ([], []), ([1], [1]), ([0, 2], [0, 2]), ([], []), ([4], [4]), ([5], [5]), ([], []), ([7], [7]), ([8], [8]), ([6, 9], [6, 9]), ([3, 10, 3], [3, 10]), ([], []), ([12], [12]), ([13], [13]), ([11, 14, 11], [11, 14]), ([15, 15, 0, 1, 2, 3, 4, 5, 6, 7, 8, 9, 10, 11, 12, 13, 14, 15], [15])])
def yf.B1 : List Nat := [0, 0, 2, 7, 0, 16, 48, 0, 128, 384, 1008, 2047, 0, 4096, 12288, 32767, 65535]
theorem yf.tab1 : xT .any (zak Tryz.f142 1) = yf.T1 := by kernel_rfl
theorem yf.bits1 : vu yf.T1.2 yf.B1 = true := by kernel_rfl
theorem yf.calls (k : Nat) (P0_ : Nat → Prop) (u9000_ : Value) (l0 : List Int) (a1_0 : ByteArray) (a1_1 : Int) (a1_2 : Int) (A1_3 : Option Addr) (c1_3 : Nat) (l1_3 : List Int) (r : List Int) (w0 w : World) (hB : Below w0.heap.size w0 w) (ho0 : Kd.R (Kd.int .u8) 5 w w0.heap.size P0_ u9000_ l0) (hr1_3 : ∀ W_, zi w W_ (fun k_ => P0_ k_) → Kd.C (Kd.int .i64) W_ A1_3 l1_3.length l1_3) (hc1_3 : l1_3.length ≤ c1_3) (h : yf.f k l0 a1_0 a1_1 a1_2 l1_3 = some r) :
  Calls Tryz.prog 142 #[u9000_, .agg #[.string a1_0, .int .i64 a1_1, .int .i64 a1_2, .slice A1_3 l1_3.length c1_3]] w fun e w' => ∃ v0_ : Value, e = .returned (v0_) ∧ Kd.R (Kd.int .u8) 5 w' w0.heap.size (fun k_ => (P0_ k_ ∨ w.heap.size ≤ k_)) v0_ r ∧ Below w0.heap.size w0 w' ∧ zi w w' (fun k_ => P0_ k_) := by
 have hu86 := Tryz.underlying86
 have HO0 := za.mk (show Kd.R (Kd.int .u8) 5 w w0.heap.size (fun k_ => (P0_ k_ ∨ w.heap.size ≤ k_)) u9000_ l0 from Kd.R_mono ho0 (fun k_ hk => (.inl hk)))
 have HR1_3 := za.mk hr1_3
 have HC1_3 := za.mk hc1_3
 clear hr1_3 hc1_3
 have HK := za.mk (zi.refl w (fun k_ => P0_ k_))
 have HW0 := za.mk hB.size
 have HB := za.mk hB
 clear hB
 have H : ((xM.f l0 a1_0).bind fun t347 => ((zu.f k t347 (([a1_1, a1_2] : List Int))).bind fun t353 => ((yn.f t353 l1_3).bind fun t356 => (some t356)))) = some r := h
 clear h
 replace H := zdJ.mp H
 obtain ⟨t347, A30, H⟩ := H
 replace H : ((zu.f k t347 (([a1_1, a1_2] : List Int))).bind fun t353 => ((yn.f t353 l1_3).bind fun t356 => (some t356))) = some r := H
 have A3 := za.mk A30
 clear A30
 obtain ⟨y350, hy350⟩ : ∃ y_ : List Int, y_ = (([a1_1, a1_2] : List Int)) := ⟨_, rfl⟩
 replace H : ((zu.f k t347 y350).bind fun t353 => ((yn.f t353 l1_3).bind fun t356 => (some t356))) = some r := by first | (rw [hy350]; with_reducible exact H) | (have H2_ := (Option.bind_some _ _).symm.trans H; rw [hy350]; with_reducible exact H2_) | (have H2_ := (Option.bind_some _ _).symm.trans H; with_reducible exact H2_) | with_reducible exact H | (rw [hy350]; exact H) | exact H
 have Ny350 := za.mk hy350
 clear hy350
 replace H := zdJ.mp H
 obtain ⟨t353, A40, H⟩ := H
 replace H : ((yn.f t353 l1_3).bind fun t356 => (some t356)) = some r := H
 have A4 := za.mk A40
 clear A40
 replace H := zdJ.mp H
 obtain ⟨t356, A50, H⟩ := H
 replace H : (some t356) = some r := H
 have A5 := za.mk A50
 clear A50
 obtain rfl := Option.some.inj H
 go_enter Tryz.func142, Tryz.ntmps142
 try go_wp2_with (first | ((with_reducible refine zJ (N := 3) rfl ?_); refine yg ?hg (N := 3) ?hd (cs := #[.string a1_0, .int .i64 a1_1, .int .i64 a1_2, .slice A1_3 l1_3.length c1_3]) (t := 86) ?hr ?_; (case hd => rfl); (case hg => rfl); (case hr => first | (go_simp; done) | (go_simp; rfl)); intro gb346 hg w6 hbox hb; have n0_ := za.mk (Kd.R_below (by (with_reducible repeat (first | apply Kd.R_alloc | apply Kd.R_drewN | apply Kd.R_drew)); exact HO0.out) hb); have n1_ := za.mk (zi.below (S := (fun k_ => P0_ k_)) (by repeat (first | (with_reducible first | exact HK.out | apply zi.alloc | apply zi.drewN | apply zi.drew) | exact HK.out)) hb); have n2_ := za.mk (zp (by repeat (first | (with_reducible first | exact HB.out | apply zc | apply zb | apply zd) | exact HB.out)) hb); have n3_ := za.mk (hbox); have n4_ := za.mk ((by rw [hg]; exact (by first | exact HK.out.1 | exact (show zi w _ (fun k_ => P0_ k_) from by repeat (first | (with_reducible first | exact HK.out | apply zi.alloc | apply zi.drewN | apply zi.drew) | exact HK.out)).1) : w.heap.size ≤ gb346)); have n5_ := za.mk ((by rw [hg]; exact (zG (by repeat (first | (with_reducible first | exact HB.out | apply zc | apply zb | apply zd) | exact HB.out))) : w0.heap.size ≤ gb346)); clear HO0; clear HK; clear HB; have HO0 := n0_; have HK := n1_; have HB := n2_; have BK346 := n3_; have GW346 := n4_; have GE346 := n5_; clear n0_ n1_ n2_ n3_ n4_ n5_; clear hb hbox hg; obtain ⟨Ao7, co7, eo7⟩ := Kd.R_slice HO0.out; subst eo7))
 have n0_ := za.mk (Kd.R_drew HO0.out)
 have n1_ := za.mk (zM BK346.out)
 have n2_ := za.mk (zi.drew HK.out)
 have n3_ := za.mk (zd HB.out)
 clear HO0
 clear BK346
 clear HK
 clear HB
 have HO0 := n0_
 have BK346 := n1_
 have HK := n2_
 have HB := n3_
 clear n0_ n1_ n2_ n3_
 refine Xa (n := 17) (S := fun w' => w'.cell? ⟨gb346, 0, none⟩ = some (.string a1_0) ∧ w'.cell? ⟨gb346, 1, none⟩ = some (.int .i64 a1_1) ∧ w'.cell? ⟨gb346, 2, none⟩ = some (.int .i64 a1_2) ∧ w'.cell? ⟨gb346, 3, none⟩ = some (.slice A1_3 l1_3.length c1_3)) (ds := []) #[Y,Y,Y,Y,Y,Y,Y,Y,Y,Y,Y,Y,Y,Y,Y,Y,Y] (by kernel_rfl) rfl rfl ⟨(zk BK346.out 0).trans rfl, (zk BK346.out 1).trans rfl, (zk BK346.out 2).trans rfl, (zk BK346.out 3).trans rfl⟩ (fun hHeld => ?_); refine ZJ yf.tab1 yf.bits1 (fun HT_ HW_ => ?_)
 generalize w6.drew = w8 at HO0 BK346 HK HB hHeld ⊢
 refine yR (i := 0) (N := some 5) (v := ?_) (a' := ?_) #[O,Y,Y,Y,Y,Y,Y,Y,Y,Y,Y,Y,Y,Y,Y,Y,Y] rfl rfl (yC HT_.out (by kernel_rfl)) (fun _ _ _ h => h) (Or.inl ⟨by rfl, ?_⟩) ?_ ?_
 rotate_left
 ·intro w'
  go_simp
  with_reducible rfl
 rotate_left
 ·simp only [Act.put, zdF, zdG, zdH, z6, ya]
  rfl
 refine yR (i := 1) (N := some 6) (v := ?_) (a' := ?_) #[O,O,Y,Y,Y,Y,Y,Y,Y,Y,Y,Y,Y,Y,Y,Y,Y] rfl rfl (yC HT_.out (by kernel_rfl)) (fun _ _ _ h => h) (Or.inl ⟨by rfl, ?_⟩) ?_ ?_
 rotate_left
 ·intro w'
  go_simp
  with_reducible rfl
 rotate_left
 ·simp only [Act.put, zdF, zdG, zdH, z6, ya]
  rfl
 refine yR (i := 4) (N := some 9) (v := ?_) (a' := ?_) #[O,O,Y,Y,O,Y,Y,Y,Y,Y,Y,Y,Y,Y,Y,Y,Y] rfl rfl (yC HT_.out (by kernel_rfl)) (fun _ _ _ h => h) (Or.inl ⟨by rfl, ?_⟩) ?_ ?_
 rotate_left
 ·intro w'
  go_simp
  with_reducible rfl
 rotate_left
 ·simp only [Act.put, zdF, zdG, zdH, z6, ya]
  rfl
 refine yR (i := 5) (N := some 10) (v := ?_) (a' := ?_) #[O,O,Y,Y,O,O,Y,Y,Y,Y,Y,Y,Y,Y,Y,Y,Y] rfl rfl (yC HT_.out (by kernel_rfl)) (fun _ _ _ h => h) (Or.inl ⟨by rfl, ?_⟩) ?_ ?_
 rotate_left
 ·intro w'
  go_simp
  with_reducible rfl
 rotate_left
 ·simp only [Act.put, zdF, zdG, zdH, z6, ya]
  rfl
 refine yR (i := 7) (N := some 12) (v := ?_) (a' := ?_) #[O,O,Y,Y,O,O,Y,O,Y,Y,Y,Y,Y,Y,Y,Y,Y] rfl rfl (yC HT_.out (by kernel_rfl)) (fun _ _ _ h => h) (Or.inl ⟨by rfl, ?_⟩) ?_ ?_
 rotate_left
 ·intro w'
  go_simp
  with_reducible rfl
 rotate_left
 ·simp only [Act.put, zdF, zdG, zdH, z6, ya]
  rfl
 refine yR (i := 8) (N := some 13) (v := ?_) (a' := ?_) #[O,O,Y,Y,O,O,Y,O,O,Y,Y,Y,Y,Y,Y,Y,Y] rfl rfl (yC HT_.out (by kernel_rfl)) (fun _ _ _ h => h) (Or.inl ⟨by rfl, ?_⟩) ?_ ?_
 rotate_left
 ·intro w'
  go_simp
  with_reducible rfl
 rotate_left
 ·simp only [Act.put, zdF, zdG, zdH, z6, ya]
  rfl
 refine yR (i := 12) (N := some 17) (v := ?_) (a' := ?_) #[O,O,Y,Y,O,O,Y,O,O,Y,Y,Y,O,Y,Y,Y,Y] rfl rfl (yC HT_.out (by kernel_rfl)) (fun _ _ _ h => h) (Or.inl ⟨by rfl, ?_⟩) ?_ ?_
 rotate_left
 ·intro w'
  go_simp
  with_reducible rfl
 rotate_left
 ·simp only [Act.put, zdF, zdG, zdH, z6, ya]
  rfl
 refine yR (i := 13) (N := some 18) (v := ?_) (a' := ?_) #[O,O,Y,Y,O,O,Y,O,O,Y,Y,Y,O,O,Y,Y,Y] rfl rfl (yC HT_.out (by kernel_rfl)) (fun _ _ _ h => h) (Or.inl ⟨by rfl, ?_⟩) ?_ ?_
 rotate_left
 ·intro w'
  go_simp
  with_reducible rfl
 rotate_left
 ·simp only [Act.put, zdF, zdG, zdH, z6, ya]
  rfl
 refine take_ (i := 2) (N := some 7) (v := ?_) (a' := ?_) #[O,O,O,Y,O,O,Y,O,O,Y,Y,Y,O,O,Y,Y,Y] rfl rfl (vk HT_.out HW_.out (by kernel_rfl)) (fun _ _ _ h => h) (Or.inl ⟨by rfl, ?_⟩) hHeld ?_ ?_
 rotate_left
 ·rintro w' ⟨s0, s1, s2, s3⟩
  go_simp
  with_reducible rfl
 rotate_left
 ·simp only [Act.put, zdF, zdG, zdH, z6, ya]
  rfl
 refine take_ (i := 6) (N := some 11) (v := ?_) (a' := ?_) #[O,O,O,Y,O,O,O,O,O,Y,Y,Y,O,O,Y,Y,Y] rfl rfl (vk HT_.out HW_.out (by kernel_rfl)) (fun _ _ _ h => h) (Or.inl ⟨by rfl, ?_⟩) hHeld ?_ ?_
 rotate_left
 ·rintro w' ⟨s0, s1, s2, s3⟩
  go_simp
  with_reducible rfl
 rotate_left
 ·simp only [Act.put, zdF, zdG, zdH, z6, ya]
  rfl
 refine take_ (i := 9) (N := some 14) (v := ?_) (a' := ?_) #[O,O,O,Y,O,O,O,O,O,O,Y,Y,O,O,Y,Y,Y] rfl rfl (vk HT_.out HW_.out (by kernel_rfl)) (fun _ _ _ h => h) (Or.inl ⟨by rfl, ?_⟩) hHeld ?_ ?_
 rotate_left
 ·rintro w' ⟨s0, s1, s2, s3⟩
  go_simp
  with_reducible rfl
 rotate_left
 ·simp only [Act.put, zdF, zdG, zdH, z6, ya]
  rfl
 refine take_ (i := 14) (N := some 19) (v := ?_) (a' := ?_) #[O,O,O,Y,O,O,O,O,O,O,Y,Y,O,O,O,Y,Y] rfl rfl (vk HT_.out HW_.out (by kernel_rfl)) (fun _ _ _ h => h) (Or.inl ⟨by rfl, ?_⟩) hHeld ?_ ?_
 rotate_left
 ·rintro w' ⟨s0, s1, s2, s3⟩
  go_simp
  with_reducible rfl
 rotate_left
 ·simp only [Act.put, zdF, zdG, zdH, z6, ya]
  rfl
 refine join_ (σ := Value × Value) 3 #[O,O,O,O,O,O,O,O,O,O,O,Y,O,O,O,Y,Y] (fun s_ => [(8, s_.1), (15, s_.2)]) (fun s_ w' => (w'.cell? ⟨gb346, 0, none⟩ = some (.string a1_0) ∧ w'.cell? ⟨gb346, 1, none⟩ = some (.int .i64 a1_1) ∧ w'.cell? ⟨gb346, 2, none⟩ = some (.int .i64 a1_2) ∧ w'.cell? ⟨gb346, 3, none⟩ = some (.slice A1_3 l1_3.length c1_3)) ∧ (Kd.R (Kd.int .u8) 5 w' w0.heap.size (fun k_ => (P0_ k_ ∨ w.heap.size ≤ k_)) s_.1 t347) ∧ (Kd.R (Kd.int .i64) 3 w' w0.heap.size (fun k_ => (P0_ k_ ∨ w.heap.size ≤ k_)) s_.2 y350) ∧ (w'.heap[gb346]? = some (.cells #[.string a1_0, .int .i64 a1_1, .int .i64 a1_2, .slice A1_3 l1_3.length c1_3] 86 (0, 0))) ∧ (zi w w' (fun k_ => P0_ k_)) ∧ (Below w0.heap.size w0 w')) ?_ ?_
 rotate_left
 ·intro hCont
  refine two_ (i := 3) (j := 10) (Ni := some 8) (Nj := some 15) #[O,O,O,O,O,O,O,O,O,O,Y,Y,O,O,O,Y,Y] #[O,O,O,Y,O,O,O,O,O,O,O,Y,O,O,O,Y,Y] rfl rfl rfl rfl (zdB HT_.out (by kernel_rfl)) (by decide) (by decide) (fun K hK => ?_) (fun K hK => ?_)
  ·skip
   refine vL Tryz.func133 (by kernel_rfl) rfl #[.slice Ao7 l0.length co7, .string a1_0] (by rfl) rfl rfl (by (try simp only [zdI, List.map_cons, List.map_nil]); first | done | rfl | (simp only [List.length_drop, List.length_take]; rfl)) ?_
   with_reducible refine (xM.calls (fun k_ => some k_ = (.slice Ao7 l0.length co7 : Value).ownBlock) (.slice Ao7 l0.length co7) l0 a1_0 t347 w0 _ ?side1 ?side2 A3.out).mono ?_
   (case side1 => repeat (first | (with_reducible first | exact HB.out | apply zc | apply zb | apply zd | refine zq ?_ GE346.out) | exact HB.out))
   (case side2 => exact Kd.R_tight rfl HO0.out)
   rintro e w9 ⟨v348, rfl, ho0, hb, hkp⟩
   refine ⟨_, rfl, ?_⟩
   have n0_ := za.mk (jb (by (with_reducible repeat (first | refine zH ?_ _ | refine zM ?_ | refine zI ?_ _)); exact BK346.out) hkp (fun hs_ => (fun e_ => (Kd.R_ne HO0.out BK346.out (by decide)) e_) hs_))
   have n1_ := za.mk (Kd.R_mono (ok' := fun k_ => (P0_ k_ ∨ w.heap.size ≤ k_)) ho0 (fun k_ hk_ => Or.elim hk_ (fun hs_ => (HO0.out.1 k_ (hs_).symm)) (fun hn_ => (.inr (Nat.le_trans (by first | exact HK.out.1 | exact (show zi w _ (fun k_ => P0_ k_) from by repeat (first | (with_reducible first | exact HK.out | apply zi.alloc | apply zi.drewN | apply zi.drew | refine zi.setCell ?_ (.inr GW346.out) _) | exact HK.out)).1) hn_)))))
   have n2_ := za.mk (zi.then_ (S := (fun k_ => P0_ k_)) (by repeat (first | (with_reducible first | exact HK.out | apply zi.alloc | apply zi.drewN | apply zi.drew | refine zi.setCell ?_ (.inr GW346.out) _) | exact HK.out)) hkp (fun k_ hs_ => (fun e_ => (HO0.out.1 k_ e_.symm)) hs_))
   have n3_ := za.mk (hb)
   clear BK346
   clear HK
   clear HB
   clear HO0
   have BK346 := n0_
   have HO349 := n1_
   have HK := n2_
   have HB := n3_
   clear n0_ n1_ n2_ n3_
   (try clear hb)
   (try clear hkp)
   (try clear ho0)
   refine hK.out _ _ ⟨(zk BK346.out 0).trans rfl, (zk BK346.out 1).trans rfl, (zk BK346.out 2).trans rfl, (zk BK346.out 3).trans rfl⟩ (fun hHeld => ?_)
   clear hK K
   refine qz (a' := ?_) ?_ ?_
   rotate_left
   ·show Act.put _ (some 8) _ = _
    simp only [Act.put, zdF, zdG, zdH, z6, ya]
    rfl
   refine jC (i := 10) (N := some 15) #[O,O,O,O,O,O,O,O,O,O,O,Y,O,O,O,Y,Y] rfl rfl (jc HT_.out (by kernel_rfl)) (by decide) (fun K hK => ?_)
   refine Kd.R_lit_step (Kd.int .i64) _ 3 ?hg (N := 15) ?hd (xs := ([a1_1, a1_2] : List Int)) (inner := [.int .i64 a1_1, .int .i64 a1_2]) (ok := fun _ => True) (okp := fun _ => True) ?hr ?hp (fun _ hk => hk) trivial (Below.refl _ _) (Nat.le_refl _) (by simp) ?_; (case hd => rfl); (case hg => rfl); (case hr => first | (go_simp; done) | (go_simp; rfl)); (case hp => exact (zS.one (show Kd.M (Kd.int .i64) _ _ _ a1_1 [.int .i64 a1_1] from rfl) (zS.one (show Kd.M (Kd.int .i64) _ _ _ a1_2 [.int .i64 a1_2] from rfl) (zS.none _ _))))
   intro v351 w10 ho11 hb hg_ hnew_
   clear hg_ hnew_
   (first | rw [← Ny350.out] at ho11 | (simp only [Int.reduceToNat] at ho11; rw [← Ny350.out] at ho11))
   have n0_ := za.mk (Kd.R_below (by (with_reducible repeat (first | apply Kd.R_alloc | apply Kd.R_drewN | apply Kd.R_drew)); exact HO349.out) hb)
   have n1_ := za.mk (Kd.R_lower (Kd.R_newM (M := fun k_ => (P0_ k_ ∨ w.heap.size ≤ k_)) ho11 (by first | exact HK.out.1 | exact (show zi w _ (fun k_ => P0_ k_) from by repeat (first | (with_reducible first | exact HK.out | apply zi.alloc | apply zi.drewN | apply zi.drew | refine zi.setCell ?_ (.inr GW346.out) _) | exact HK.out)).1) (fun k_ h_ => .inr h_)) (zG (by repeat (first | (with_reducible first | exact HB.out | apply zc | apply zb | apply zd | refine zq ?_ GE346.out) | exact HB.out))))
   have n2_ := za.mk (zP (g := gb346) (o := .cells #[.string a1_0, .int .i64 a1_1, .int .i64 a1_2, .slice A1_3 l1_3.length c1_3] 86 (0, 0)) (by (with_reducible repeat (first | refine zH ?_ _ | refine zM ?_ | refine zI ?_ _)); exact BK346.out) hb)
   have n3_ := za.mk (zi.below (S := (fun k_ => P0_ k_)) (by repeat (first | (with_reducible first | exact HK.out | apply zi.alloc | apply zi.drewN | apply zi.drew | refine zi.setCell ?_ (.inr GW346.out) _) | exact HK.out)) hb)
   have n4_ := za.mk (zp (by repeat (first | (with_reducible first | exact HB.out | apply zc | apply zb | apply zd | refine zq ?_ GE346.out) | exact HB.out)) hb)
   clear HO349
   clear BK346
   clear HK
   clear HB
   have HO349 := n0_
   have HO352 := n1_
   have BK346 := n2_
   have HK := n3_
   have HB := n4_
   clear n0_ n1_ n2_ n3_ n4_
   clear hb ho11
   refine hK.out _ _ ⟨(zk BK346.out 0).trans rfl, (zk BK346.out 1).trans rfl, (zk BK346.out 2).trans rfl, (zk BK346.out 3).trans rfl⟩ (fun hHeld => ?_)
   clear hK K
   refine qz (a' := ?_) ?_ ?_
   rotate_left
   ·show Act.put _ (some 15) _ = _
    simp only [Act.put, zdF, zdG, zdH, z6, ya]
    rfl
   exact qz (by simp only [Yh, Act.put, zdF, zdG, zdH]) (hCont (v348, v351) _ ⟨hHeld, (by (with_reducible repeat (first | apply Kd.R_alloc | apply Kd.R_drewN | apply Kd.R_drew)); exact HO349.out), (by (with_reducible repeat (first | apply Kd.R_alloc | apply Kd.R_drewN | apply Kd.R_drew)); exact Kd.R_mono HO352.out (fun _ hk => hk.1)), (by (with_reducible repeat (first | refine zH ?_ _ | refine zM ?_ | refine zI ?_ _)); exact BK346.out), (by repeat (first | (with_reducible first | exact HK.out | apply zi.alloc | apply zi.drewN | apply zi.drew | refine zi.setCell ?_ (.inr GW346.out) _) | exact HK.out)), (by repeat (first | (with_reducible first | exact HB.out | apply zc | apply zb | apply zd | refine zq ?_ GE346.out) | exact HB.out))⟩)
  ·skip
   refine Kd.R_lit_step (Kd.int .i64) _ 3 ?hg (N := 15) ?hd (xs := ([a1_1, a1_2] : List Int)) (inner := [.int .i64 a1_1, .int .i64 a1_2]) (ok := fun _ => True) (okp := fun _ => True) ?hr ?hp (fun _ hk => hk) trivial (Below.refl _ _) (Nat.le_refl _) (by simp) ?_; (case hd => rfl); (case hg => rfl); (case hr => first | (go_simp; done) | (go_simp; rfl)); (case hp => exact (zS.one (show Kd.M (Kd.int .i64) _ _ _ a1_1 [.int .i64 a1_1] from rfl) (zS.one (show Kd.M (Kd.int .i64) _ _ _ a1_2 [.int .i64 a1_2] from rfl) (zS.none _ _))))
   intro v351 w9 ho10 hb hg_ hnew_
   clear hg_ hnew_
   (first | rw [← Ny350.out] at ho10 | (simp only [Int.reduceToNat] at ho10; rw [← Ny350.out] at ho10))
   have n0_ := za.mk (Kd.R_below (by (with_reducible repeat (first | apply Kd.R_alloc | apply Kd.R_drewN | apply Kd.R_drew)); exact HO0.out) hb)
   have n1_ := za.mk (Kd.R_lower (Kd.R_newM (M := fun k_ => (P0_ k_ ∨ w.heap.size ≤ k_)) ho10 (by first | exact HK.out.1 | exact (show zi w _ (fun k_ => P0_ k_) from by repeat (first | (with_reducible first | exact HK.out | apply zi.alloc | apply zi.drewN | apply zi.drew | refine zi.setCell ?_ (.inr GW346.out) _) | exact HK.out)).1) (fun k_ h_ => .inr h_)) (zG (by repeat (first | (with_reducible first | exact HB.out | apply zc | apply zb | apply zd | refine zq ?_ GE346.out) | exact HB.out))))
   have n2_ := za.mk (zP (g := gb346) (o := .cells #[.string a1_0, .int .i64 a1_1, .int .i64 a1_2, .slice A1_3 l1_3.length c1_3] 86 (0, 0)) (by (with_reducible repeat (first | refine zH ?_ _ | refine zM ?_ | refine zI ?_ _)); exact BK346.out) hb)
   have n3_ := za.mk (zi.below (S := (fun k_ => P0_ k_)) (by repeat (first | (with_reducible first | exact HK.out | apply zi.alloc | apply zi.drewN | apply zi.drew | refine zi.setCell ?_ (.inr GW346.out) _) | exact HK.out)) hb)
   have n4_ := za.mk (zp (by repeat (first | (with_reducible first | exact HB.out | apply zc | apply zb | apply zd | refine zq ?_ GE346.out) | exact HB.out)) hb)
   clear HO0
   clear BK346
   clear HK
   clear HB
   have HO0 := n0_
   have HO352 := n1_
   have BK346 := n2_
   have HK := n3_
   have HB := n4_
   clear n0_ n1_ n2_ n3_ n4_
   clear hb ho10
   refine hK.out _ _ ⟨(zk BK346.out 0).trans rfl, (zk BK346.out 1).trans rfl, (zk BK346.out 2).trans rfl, (zk BK346.out 3).trans rfl⟩ (fun hHeld => ?_)
   clear hK K
   refine qz (a' := ?_) ?_ ?_
   rotate_left
   ·show Act.put _ (some 15) _ = _
    simp only [Act.put, zdF, zdG, zdH, z6, ya]
    rfl
   refine jC (i := 3) (N := some 8) #[O,O,O,O,O,O,O,O,O,O,O,Y,O,O,O,Y,Y] rfl rfl (jc HT_.out (by kernel_rfl)) (by decide) (fun K hK => ?_)
   refine vL Tryz.func133 (by kernel_rfl) rfl #[.slice Ao7 l0.length co7, .string a1_0] (by rfl) rfl rfl (by (try simp only [zdI, List.map_cons, List.map_nil]); first | done | rfl | (simp only [List.length_drop, List.length_take]; rfl)) ?_
   with_reducible refine (xM.calls (fun k_ => some k_ = (.slice Ao7 l0.length co7 : Value).ownBlock) (.slice Ao7 l0.length co7) l0 a1_0 t347 w0 _ ?side1 ?side2 A3.out).mono ?_
   (case side1 => repeat (first | (with_reducible first | exact HB.out | apply zc | apply zb | apply zd | refine zq ?_ GE346.out) | exact HB.out))
   (case side2 => exact Kd.R_tight rfl HO0.out)
   rintro e w11 ⟨v348, rfl, ho0, hb, hkp⟩
   refine ⟨_, rfl, ?_⟩
   have n0_ := za.mk (jb (by (with_reducible repeat (first | refine zH ?_ _ | refine zM ?_ | refine zI ?_ _)); exact BK346.out) hkp (fun hs_ => (fun e_ => (Kd.R_ne HO0.out BK346.out (by decide)) e_) hs_))
   have n1_ := za.mk (Kd.R_mono (ok' := fun k_ => (P0_ k_ ∨ w.heap.size ≤ k_)) (Kd.R_keptB ((Kd.R_apart' HO352.out (Kd.R_typed HO0.out) (by decide))) hkp (fun k_ hk_ hs_ => (hk_.2) hs_)) (fun k_ hk_ => hk_.1.1.1))
   have n2_ := za.mk (Kd.R_mono (ok' := fun k_ => (P0_ k_ ∨ w.heap.size ≤ k_)) ho0 (fun k_ hk_ => Or.elim hk_ (fun hs_ => (HO0.out.1 k_ (hs_).symm)) (fun hn_ => (.inr (Nat.le_trans (by first | exact HK.out.1 | exact (show zi w _ (fun k_ => P0_ k_) from by repeat (first | (with_reducible first | exact HK.out | apply zi.alloc | apply zi.drewN | apply zi.drew | refine zi.setCell ?_ (.inr GW346.out) _) | exact HK.out)).1) hn_)))))
   have n3_ := za.mk (zi.then_ (S := (fun k_ => P0_ k_)) (by repeat (first | (with_reducible first | exact HK.out | apply zi.alloc | apply zi.drewN | apply zi.drew | refine zi.setCell ?_ (.inr GW346.out) _) | exact HK.out)) hkp (fun k_ hs_ => (fun e_ => (HO0.out.1 k_ e_.symm)) hs_))
   have n4_ := za.mk (hb)
   clear BK346
   clear HO352
   clear HK
   clear HB
   clear HO0
   have BK346 := n0_
   have HO352 := n1_
   have HO349 := n2_
   have HK := n3_
   have HB := n4_
   clear n0_ n1_ n2_ n3_ n4_
   (try clear hb)
   (try clear hkp)
   (try clear ho0)
   refine hK.out _ _ ⟨(zk BK346.out 0).trans rfl, (zk BK346.out 1).trans rfl, (zk BK346.out 2).trans rfl, (zk BK346.out 3).trans rfl⟩ (fun hHeld => ?_)
   clear hK K
   refine qz (a' := ?_) ?_ ?_
   rotate_left
   ·show Act.put _ (some 8) _ = _
    simp only [Act.put, zdF, zdG, zdH, z6, ya]
    rfl
   exact qz (by simp only [Yh, Act.put, zdF, zdG, zdH]) (hCont (v348, v351) _ ⟨hHeld, (by (with_reducible repeat (first | apply Kd.R_alloc | apply Kd.R_drewN | apply Kd.R_drew)); exact HO349.out), (by (with_reducible repeat (first | apply Kd.R_alloc | apply Kd.R_drewN | apply Kd.R_drew)); exact HO352.out), (by (with_reducible repeat (first | refine zH ?_ _ | refine zM ?_ | refine zI ?_ _)); exact BK346.out), (by repeat (first | (with_reducible first | exact HK.out | apply zi.alloc | apply zi.drewN | apply zi.drew | refine zi.setCell ?_ (.inr GW346.out) _) | exact HK.out)), (by repeat (first | (with_reducible first | exact HB.out | apply zc | apply zb | apply zd | refine zq ?_ GE346.out) | exact HB.out))⟩)
 rintro ⟨v348, v351⟩ w12 ⟨hS_, h0_, h1_, h2_, h3_, h4_⟩
 have n0_ : za (Kd.R (Kd.int .u8) 5 w12 w0.heap.size (fun k_ => (P0_ k_ ∨ w.heap.size ≤ k_)) v348 t347) := ⟨h0_⟩
 have n1_ : za (Kd.R (Kd.int .i64) 3 w12 w0.heap.size (fun k_ => (P0_ k_ ∨ w.heap.size ≤ k_)) v351 y350) := ⟨h1_⟩
 have n2_ : za (w12.heap[gb346]? = some (.cells #[.string a1_0, .int .i64 a1_1, .int .i64 a1_2, .slice A1_3 l1_3.length c1_3] 86 (0, 0))) := ⟨h2_⟩
 have n3_ : za (zi w w12 (fun k_ => P0_ k_)) := ⟨h3_⟩
 have n4_ : za (Below w0.heap.size w0 w12) := ⟨h4_⟩
 clear HO0
 clear BK346
 clear HK
 clear HB
 clear h0_ h1_ h2_ h3_ h4_
 have HO349 := n0_
 have HO352 := n1_
 have BK346 := n2_
 have HK := n3_
 have HB := n4_
 clear n0_ n1_ n2_ n3_ n4_
 have hHeld : w12.cell? ⟨gb346, 0, none⟩ = some (.string a1_0) ∧ w12.cell? ⟨gb346, 1, none⟩ = some (.int .i64 a1_1) ∧ w12.cell? ⟨gb346, 2, none⟩ = some (.int .i64 a1_2) ∧ w12.cell? ⟨gb346, 3, none⟩ = some (.slice A1_3 l1_3.length c1_3) := hS_
 obtain ⟨Ao13, co13, eo13⟩ := Kd.R_slice HO349.out
 (first | subst eo13 | (injection eo13 with f1_ f2_ f3_; have f4_ := f1_.symm; have f5_ := f3_.symm; clear f1_ f2_ f3_; subst f4_; subst f5_))
 obtain ⟨Ao14, co14, eo14⟩ := Kd.R_slice HO352.out
 (first | subst eo14 | (injection eo14 with f1_ f2_ f3_; have f4_ := f1_.symm; have f5_ := f3_.symm; clear f1_ f2_ f3_; subst f4_; subst f5_))
 refine qz (a' := ?_) ?_ ?_
 rotate_left
 ·simp only [Yh, Act.put, zdF, zdG, zdH]
  rfl
 refine jC (i := 11) (N := some 16) #[O,O,O,O,O,O,O,O,O,O,O,O,O,O,O,Y,Y] rfl rfl (jc HT_.out (by kernel_rfl)) (by decide) (fun K hK => ?_)
 refine vL Tryz.func134 (by kernel_rfl) rfl #[.slice Ao13 t347.length co13, .slice Ao14 y350.length co14] (by rfl) rfl rfl (by (try simp only [zdI, List.map_cons, List.map_nil]); first | done | rfl | (simp only [List.length_drop, List.length_take]; rfl)) ?_
 with_reducible refine (zu.calls k (fun k_ => some k_ = (.slice Ao13 t347.length co13 : Value).ownBlock) (.slice Ao13 t347.length co13) t347 _ _ y350 t353 w0 _ ?side1 ?side2 ?side3 ?side4 A4.out).mono ?_
 (case side1 => repeat (first | (with_reducible first | exact HB.out | apply zc | apply zb | apply zd | refine zq ?_ GE346.out) | exact HB.out))
 (case side2 => exact Kd.R_tight rfl HO349.out)
 (case side3 => exact Kd.C_kept_own ((Kd.R_apart' HO352.out (Kd.R_typed HO349.out) (by decide))) (fun k_ hk_ hs_ => (hk_.2) hs_))
 (case side4 => exact (Kd.R_reads' HO352.out).2.1)
 rintro e w15 ⟨v354, rfl, ho0, hb, hkp⟩
 refine ⟨_, rfl, ?_⟩
 have n0_ := za.mk (jb (by (with_reducible repeat (first | refine zH ?_ _ | refine zM ?_ | refine zI ?_ _)); exact BK346.out) hkp (fun hs_ => (fun e_ => (Kd.R_ne HO349.out BK346.out (by decide)) e_) hs_))
 have n1_ := za.mk (Kd.R_mono (ok' := fun k_ => (P0_ k_ ∨ w.heap.size ≤ k_)) (Kd.R_keptB ((Kd.R_apart' HO352.out (Kd.R_typed HO349.out) (by decide))) hkp (fun k_ hk_ hs_ => (hk_.2) hs_)) (fun k_ hk_ => hk_.1.1))
 have n2_ := za.mk (Kd.R_mono (ok' := fun k_ => (P0_ k_ ∨ w.heap.size ≤ k_)) ho0 (fun k_ hk_ => Or.elim hk_ (fun hs_ => (HO349.out.1 k_ (hs_).symm)) (fun hn_ => (.inr (Nat.le_trans (by first | exact HK.out.1 | exact (show zi w _ (fun k_ => P0_ k_) from by repeat (first | (with_reducible first | exact HK.out | apply zi.alloc | apply zi.drewN | apply zi.drew | refine zi.setCell ?_ (.inr GW346.out) _) | exact HK.out)).1) hn_)))))
 have n3_ := za.mk (zi.then_ (S := (fun k_ => P0_ k_)) (by repeat (first | (with_reducible first | exact HK.out | apply zi.alloc | apply zi.drewN | apply zi.drew | refine zi.setCell ?_ (.inr GW346.out) _) | exact HK.out)) hkp (fun k_ hs_ => (fun e_ => (HO349.out.1 k_ e_.symm)) hs_))
 have n4_ := za.mk (hb)
 clear BK346
 clear HO352
 clear HK
 clear HB
 clear HO349
 have BK346 := n0_
 have HO352 := n1_
 have HO355 := n2_
 have HK := n3_
 have HB := n4_
 clear n0_ n1_ n2_ n3_ n4_
 (try clear hb)
 (try clear hkp)
 (try clear ho0)
 obtain ⟨Ao16, co16, eo16⟩ := Kd.R_slice HO355.out
 (first | subst eo16 | (injection eo16 with f1_ f2_ f3_; have f4_ := f1_.symm; have f5_ := f3_.symm; clear f1_ f2_ f3_; subst f4_; subst f5_))
 refine hK.out _ _ ⟨(zk BK346.out 0).trans rfl, (zk BK346.out 1).trans rfl, (zk BK346.out 2).trans rfl, (zk BK346.out 3).trans rfl⟩ (fun hHeld => ?_)
 clear hK K
 refine qz (a' := ?_) ?_ ?_
 rotate_left
 ·show Act.put _ (some 16) _ = _
  simp only [Act.put, zdF, zdG, zdH, z6, ya]
  rfl
 refine jC (i := 15) (N := some 20) #[O,O,O,O,O,O,O,O,O,O,O,O,O,O,O,O,Y] rfl rfl (jc HT_.out (by kernel_rfl)) (by decide) (fun K hK => ?_)
 refine vL Tryz.func135 (by kernel_rfl) rfl #[.slice Ao16 t353.length co16, .slice A1_3 l1_3.length c1_3] (by rfl) rfl rfl (by (try simp only [zdI, List.map_cons, List.map_nil]); first | done | rfl | (simp only [List.length_drop, List.length_take]; rfl)) ?_
 with_reducible refine (yn.calls (fun k_ => some k_ = (.slice Ao16 t353.length co16 : Value).ownBlock) (.slice Ao16 t353.length co16) t353 _ _ l1_3 t356 w0 _ ?side1 ?side2 ?side3 ?side4 A5.out).mono ?_
 (case side1 => repeat (first | (with_reducible first | exact HB.out | apply zc | apply zb | apply zd | refine zq ?_ GE346.out) | exact HB.out))
 (case side2 => exact Kd.R_tight rfl HO355.out)
 (case side3 => exact Kd.C_kept_call HR1_3.out (by repeat (first | (with_reducible first | exact HK.out | apply zi.alloc | apply zi.drewN | apply zi.drew | refine zi.setCell ?_ (.inr GW346.out) _) | exact HK.out)) (fun k_ hs_ => (fun e_ => (HO355.out.1 k_ e_.symm)) hs_))
 (case side4 => exact HC1_3.out)
 rintro e w17 ⟨v357, rfl, ho0, hb, hkp⟩
 refine ⟨_, rfl, ?_⟩
 have n0_ := za.mk (jb (by (with_reducible repeat (first | refine zH ?_ _ | refine zM ?_ | refine zI ?_ _)); exact BK346.out) hkp (fun hs_ => (fun e_ => (Kd.R_ne HO355.out BK346.out (by decide)) e_) hs_))
 have n1_ := za.mk (Kd.R_mono (ok' := fun k_ => (P0_ k_ ∨ w.heap.size ≤ k_)) (Kd.R_keptB ((Kd.R_apart' HO352.out (Kd.R_typed HO355.out) (by decide))) hkp (fun k_ hk_ hs_ => (hk_.2) hs_)) (fun k_ hk_ => hk_.1.1))
 have n2_ := za.mk (Kd.R_mono (ok' := fun k_ => (P0_ k_ ∨ w.heap.size ≤ k_)) ho0 (fun k_ hk_ => Or.elim hk_ (fun hs_ => (HO355.out.1 k_ (hs_).symm)) (fun hn_ => (.inr (Nat.le_trans (by first | exact HK.out.1 | exact (show zi w _ (fun k_ => P0_ k_) from by repeat (first | (with_reducible first | exact HK.out | apply zi.alloc | apply zi.drewN | apply zi.drew | refine zi.setCell ?_ (.inr GW346.out) _) | exact HK.out)).1) hn_)))))
 have n3_ := za.mk (zi.then_ (S := (fun k_ => P0_ k_)) (by repeat (first | (with_reducible first | exact HK.out | apply zi.alloc | apply zi.drewN | apply zi.drew | refine zi.setCell ?_ (.inr GW346.out) _) | exact HK.out)) hkp (fun k_ hs_ => (fun e_ => (HO355.out.1 k_ e_.symm)) hs_))
 have n4_ := za.mk (hb)
 clear BK346
 clear HO352
 clear HK
 clear HB
 clear HO355
 have BK346 := n0_
 have HO352 := n1_
 have HO358 := n2_
 have HK := n3_
 have HB := n4_
 clear n0_ n1_ n2_ n3_ n4_
 (try clear hb)
 (try clear hkp)
 (try clear ho0)
 refine hK.out _ _ ⟨(zk BK346.out 0).trans rfl, (zk BK346.out 1).trans rfl, (zk BK346.out 2).trans rfl, (zk BK346.out 3).trans rfl⟩ (fun hHeld => ?_)
 clear hK K
 refine qz (a' := ?_) ?_ ?_
 rotate_left
 ·show Act.put _ (some 20) _ = _
  simp only [Act.put, zdF, zdG, zdH, z6, ya]
  rfl
 refine yR (i := 16) (N := some 4) (v := ?_) (a' := ?_) #[O,O,O,O,O,O,O,O,O,O,O,O,O,O,O,O,O] rfl rfl (yC HT_.out (by kernel_rfl)) (fun _ _ _ h => h) (Or.inl ⟨by rfl, ?_⟩) ?_ ?_
 rotate_left
 ·intro w'
  go_simp
  with_reducible rfl
 rotate_left
 ·simp only [Act.put, zdF, zdG, zdH, z6, ya]
  rfl
 refine Xo (Xg HT_.out (by kernel_rfl)) ?_
 try go_wp2
 go_ret
 exact ⟨_, by first | rfl | (simp [zn, zo] <;> rfl) | (simp [*, zn, zo] <;> rfl), by (with_reducible repeat (first | apply Kd.R_alloc | apply Kd.R_drewN | apply Kd.R_drew)); exact HO358.out, by repeat (first | (with_reducible first | exact HB.out | apply zc | apply zb | apply zd | refine zq ?_ GE346.out) | exact HB.out), by repeat (first | (with_reducible first | exact HK.out | apply zi.alloc | apply zi.drewN | apply zi.drew | refine zi.setCell ?_ (.inr GW346.out) _) | exact HK.out)⟩
def yc.f (k : Nat) (l0 : List Int) (l1 : List S86) : Option (List Int) := (zu.f k l0 (([(l1.length : Int)] : List Int))).bind fun t => xF (fun acc x => yf.f k acc x.f0 x.f1.f0 x.f1.f1 x.f1.f2) l1 t
theorem yc.calls (k : Nat) (P0_ : Nat → Prop) (u9000_ : Value) (l0 : List Int) (A1 : Option Addr) (c1 : Nat) (l1 : List (S86)) (r : List Int) (w0 w : World) (hB : Below w0.heap.size w0 w) (ho0 : Kd.R (Kd.int .u8) 5 w w0.heap.size P0_ u9000_ l0) (hr1 : ∀ W_, zi w W_ (fun k_ => P0_ k_) → Kd.C k86 W_ A1 l1.length l1) (hc1 : l1.length ≤ c1) (h : yc.f k l0 l1 = some r) :
  Calls Tryz.prog 141 #[u9000_, .slice A1 l1.length c1, .func (Fn.func 142) #[] #[]] w fun e w' => ∃ v0_ : Value, e = .returned (v0_) ∧ Kd.R (Kd.int .u8) 5 w' w0.heap.size (fun k_ => (P0_ k_ ∨ w.heap.size ≤ k_)) v0_ r ∧ Below w0.heap.size w0 w' ∧ zi w w' (fun k_ => P0_ k_) := by
 have HLEN := za.mk (hr1 w (zi.refl _ _)).2.1
 have HBLK : za (0 < l1.length → ∃ ad, A1 = some ad ∧ ad.block < w.heap.size ∧ ¬ P0_ ad.block) := ⟨fun hn => Qp hr1 hn (by decide)⟩
 have HO0 := za.mk (show Kd.R (Kd.int .u8) 5 w w0.heap.size (fun k_ => (P0_ k_ ∨ w.heap.size ≤ k_)) u9000_ l0 from Kd.R_mono ho0 (fun k_ hk => (.inl hk)))
 have HR1 := za.mk hr1
 have HC1 := za.mk hc1
 clear hr1 hc1 ho0
 have HK := za.mk (zi.refl w (fun k_ => P0_ k_))
 have HB := za.mk hB
 clear hB
 unfold yc.f at h
 rw [zdJ] at h
 obtain ⟨t0, ht0, h⟩ := h
 have A4 := za.mk ht0
 have H' := za.mk h
 clear ht0 h
 obtain ⟨y391, hy391⟩ : ∃ y_ : List Int, y_ = (([(l1.length : Int)] : List Int)) := ⟨_, rfl⟩
 have Ny391 := za.mk hy391
 have A4 := za.mk (show zu.f k l0 y391 = some t0 by rw [hy391]; exact A4.out)
 clear hy391
 go_enter Tryz.func141, Tryz.ntmps141
 go_wp2_with (first | ((with_reducible refine zJ (N := 12) rfl ?_); refine Kd.R_lit (Kd.int .i64) _ 3 ?hg (N := 12) ?hd (xs := ([(l1.length : Int)] : List Int)) (inner := [.int .i64 (l1.length : Int)]) (ok := fun _ => True) (okp := fun _ => True) ?hr ?hp (fun _ hk => hk) trivial (Below.refl _ _) (Nat.le_refl _) (by simp) ?_; (case hd => rfl); (case hg => rfl); (case hr => first | (go_simp; done) | (go_simp; rfl)); (case hp => exact (zS.one (show Kd.M (Kd.int .i64) _ _ _ (l1.length : Int) [.int .i64 (l1.length : Int)] from rfl) (zS.none _ _))); intro v392 w5 ho6 hb hg_ hnew_; clear hg_ hnew_; (first | rw [← Ny391.out] at ho6 | (simp only [Int.reduceToNat] at ho6; rw [← Ny391.out] at ho6)); have n0_ := za.mk (Kd.R_below HO0.out hb); have n1_ := za.mk (Kd.R_lower (Kd.R_newM (M := (fun k_ => (P0_ k_ ∨ w.heap.size ≤ k_))) ho6 HK.out.1 (fun k_ h_ => .inr h_)) HB.out.size); have n2_ := za.mk (zi.below (S := (fun k_ => P0_ k_)) (by repeat (first | (with_reducible first | exact HK.out | apply zi.alloc | apply zi.drewN | apply zi.drew) | exact HK.out)) hb); have n3_ := za.mk (zp (by repeat (first | (with_reducible first | exact HB.out | apply zc | apply zb | apply zd) | exact HB.out)) hb); clear HO0; clear HK; clear HB; have HO0 := n0_; have HO393 := n1_; have HK := n2_; have HB := n3_; clear n0_ n1_ n2_ n3_; clear hb ho6; obtain ⟨Ao7, co7, eo7⟩ := Kd.R_slice HO0.out; subst eo7; obtain ⟨Ao8, co8, eo8⟩ := Kd.R_slice HO393.out; subst eo8) | ((with_reducible refine zy (f := 134) rfl ?_); refine zU (some 13) rfl rfl Tryz.func134 (by kernel_rfl) rfl #[.slice Ao7 l0.length co7, .slice Ao8 y391.length co8] rfl (by (try simp only [zdI, List.map_cons, List.map_nil]); first | done | rfl) ?_; (with_reducible refine (zu.calls k (fun k_ => some k_ = (.slice Ao7 l0.length co7 : Value).ownBlock) (.slice Ao7 l0.length co7) l0 _ _ y391 t0 w0 _ ?side1 ?side2 ?side3 ?side4 A4.out).mono ?_); (case side1 => exact HB.out); (case side2 => exact Kd.R_tight rfl HO0.out); (case side3 => exact Kd.C_kept_own ((Kd.R_apart' HO393.out (Kd.R_typed HO0.out) (by decide))) (fun k_ hk_ hs_ => (hk_.2) hs_)); (case side4 => exact (Kd.R_reads' HO393.out).2.1); rintro e w9 ⟨v395, rfl, ho0, hb, hkp⟩; refine ⟨_, rfl, ?_⟩; have n1_ := za.mk (Kd.R_mono (ok' := (fun k_ => (P0_ k_ ∨ w.heap.size ≤ k_))) ho0 (fun k_ hk_ => Or.elim hk_ (fun hs_ => (HO0.out.1 k_ (hs_).symm)) (fun hn_ => (.inr (Nat.le_trans HK.out.1 hn_))))); have n2_ := za.mk (zi.then_ (S := (fun k_ => P0_ k_)) HK.out hkp (fun k_ hs_ => (fun e_ => (HO0.out.1 k_ e_.symm)) hs_)); have n3_ := za.mk (hb); clear HO393; clear HK; clear HB; clear HO0; have HO396 := n1_; have HK := n2_; have HB := n3_; clear n1_ n2_ n3_; (try clear hb); (try clear hkp); (try clear ho0)))
 go_loopg [0, 16] l1.length (fun kq v0 v16 w' => ∃ (xs : List Int) (i : Nat), v16 = .int .i64 i ∧ za (i + kq = l1.length) ∧ za (xF (fun acc x => yf.f k acc x.f0 x.f1.f0 x.f1.f1 x.f1.f2) (l1.drop i) xs = some r) ∧ za (Kd.R (Kd.int .u8) 5 w' w0.heap.size (fun k_ => (P0_ k_ ∨ w.heap.size ≤ k_)) v0 xs) ∧ za (zi w w' (fun k_ => P0_ k_)) ∧ za (Below w0.heap.size w0 w'))
 case atStart => exact ⟨t0, 0, rfl, ⟨by simp⟩, ⟨by rw [List.drop_zero]; exact H'.out⟩, HO396, HK, HB⟩
 case round =>
  clear H'
  obtain ⟨xs, i, rfl, HI, HA, HO_0, HK, HB⟩ := hrel
  by_cases hlt : i < l1.length
  ·have ho := HA.out
   rw [List.drop_eq_getElem_cons hlt, xF, zdJ] at ho
   obtain ⟨t1, ht1, ho⟩ := ho
   have A13 := za.mk ht1
   have H2 := za.mk ho
   clear ht1 ho HA
   have hq : (i : Int).toNat = i := Int.toNat_natCast i
   have hrd : xR l1 (i : Int) = l1[i] := by simp [xR, hlt]
   obtain ⟨ad, Ai, ci, ea, hx0, hx1, hx2, hx3, hl, hC⟩ := vR (HR1.out _ HK.out) (i : Int) (by omega) (by omega)
   rw [hrd, hq] at hx0 hx1 hx2 hx3
   rw [hrd] at hl
   obtain ⟨ad2, ea2, hblt, hnp⟩ := HBLK.out (by omega)
   cases ea.symm.trans ea2
   have HIN : za (∀ (g_ : Nat → Prop) (W_ : World), (∀ k_, g_ k_ → (P0_ k_ ∨ w.heap.size ≤ k_)) → zi wr W_ g_ → Kd.C (Kd.int .i64) W_ Ai l1[i].f1.f2.length l1[i].f1.f2) := ⟨fun g_ W_ hg hk => by
    obtain ⟨ad', Ai', ci', ea', hx0', hx1', hx2', hx3', hl', hC'⟩ := vR (HR1.out W_ (HK.out.then_ hk (fun k_ h_ => hg k_ h_))) (i : Int) (by omega) (by omega)
    rw [hrd, hq] at hx0' hx1' hx2' hx3'
    cases ea.symm.trans ea'
    have hne : ¬ g_ ad.block := fun h_ => Or.elim (hg _ h_) hnp (fun h2 => by omega)
    have hq2 := Q7 hx3 hk (by first | exact hne | (rw [jM]; exact hne) | (show ¬ g_ (Addr.add _ _).block; rw [jM]; exact hne))
    rw [hx3'] at hq2
    injection hq2 with hq2
    injection hq2 with hq2 _ _
    subst hq2
    rw [hrd] at hC'
    exact hC'⟩
   have HL := za.mk hl
   clear hl hC HBLK
   cases ea
   clear ea2
   obtain ⟨x, hx⟩ : ∃ x, x = l1[i] := ⟨_, rfl⟩
   rw [← hx] at A13 HL HIN hx0 hx1 hx2 hx3
   clear hx hrd hq
   go_wp2_with (first | ((with_reducible refine zJ (N := 8) rfl ?_); refine yg ?hg (N := 8) ?hd (cs := #[.string ⟨#[]⟩, .int .i64 0, .int .i64 0, .slice none 0 0]) (t := 86) ?hr ?_; (case hd => rfl); (case hg => rfl); (case hr => first | (go_simp; done) | (go_simp; rfl)); intro gb hg w14 hbox hb; have n0_ := za.mk (Kd.R_below HO_0.out hb); have n1_ := za.mk (zi.below (S := (fun k_ => P0_ k_)) HK.out hb); have n2_ := za.mk (zp HB.out hb); have n3_ := za.mk hbox; have n4_ := za.mk (by rw [hg]; exact HK.out.1 : w.heap.size ≤ gb); have n5_ := za.mk (by rw [hg]; exact HB.out.size : w0.heap.size ≤ gb); have n6_ := za.mk (fun (g_ : Nat → Prop) (W_ : World) (hg_ : ∀ k_, g_ k_ → (P0_ k_ ∨ w.heap.size ≤ k_)) (hk_ : zi w14 W_ g_) => HIN.out g_ W_ hg_ ((zi.of_below hb g_).then_ hk_ (fun _ h_ => .inl h_))); clear HO_0; clear HK; clear HB; clear HIN; have HO_0 := n0_; have HK := n1_; have HB := n2_; have BK := n3_; have GW := n4_; have GE := n5_; have HIN := n6_; clear n0_ n1_ n2_ n3_ n4_ n5_ n6_; clear hb hbox hg; have hcz_0 : w14.cell? ⟨gb, 0, none⟩ = some (.string ⟨#[]⟩) := (zk BK.out 0).trans rfl; have hfz_0 := zl BK.out 0; have hcz_1 : w14.cell? ⟨gb, 1, none⟩ = some (.int .i64 0) := (zk BK.out 1).trans rfl; have hfz_1 := zl BK.out 1; have hcz_2 : w14.cell? ⟨gb, 2, none⟩ = some (.int .i64 0) := (zk BK.out 2).trans rfl; have hfz_2 := zl BK.out 2; have hcz_3 : w14.cell? ⟨gb, 3, none⟩ = some (.slice none 0 0) := (zk BK.out 3).trans rfl; have hfz_3 := zl BK.out 3) | ((with_reducible refine jV (t := 86) (p := 8) rfl ?_); refine jv (t := 86) (p := 8) (v := ?vo_w16) (w1 := ((((w14.setCell ⟨gb, 0, none⟩ (.string x.f0)).setCell ⟨gb, 1, none⟩ (.int .i64 x.f1.f0)).setCell ⟨gb, 2, none⟩ (.int .i64 x.f1.f1)).setCell ⟨gb, 3, none⟩ (.slice Ai x.f1.f2.length ci))) ?hg ?ho ?hn ?hr ?_; (case ho => rfl); (case hg => rfl); (case hn => rfl); (case hr => first | (go_simp; done) | (go_simp; rfl)); intro w16 hw; have n0_ : za (Kd.R (Kd.int .u8) 5 w16 w0.heap.size (fun k_ => (P0_ k_ ∨ w.heap.size ≤ k_)) u0 xs) := ⟨(by rw [hw]; exact (Kd.R_mono (Kd.R_far (p := ⟨gb, 3, none⟩) (Kd.R_far (p := ⟨gb, 2, none⟩) (Kd.R_far (p := ⟨gb, 1, none⟩) (Kd.R_far (p := ⟨gb, 0, none⟩) (Kd.R_types HO_0.out BK.out (by decide)) (fun _ hk => hk.2) (.string x.f0)) (fun _ hk => hk.2) (.int .i64 x.f1.f0)) (fun _ hk => hk.2) (.int .i64 x.f1.f1)) (fun _ hk => hk.2) (.slice Ai x.f1.f2.length ci)) (fun _ hk => hk.1)))⟩; have n1_ : za (w16.heap[gb]? = some (.cells #[.string x.f0, .int .i64 x.f1.f0, .int .i64 x.f1.f1, .slice Ai x.f1.f2.length ci] 86 (0, 0))) := ⟨(by rw [hw]; exact (yH (cs' := #[.string x.f0, .int .i64 x.f1.f0, .int .i64 x.f1.f1, .slice Ai x.f1.f2.length ci]) (yH (cs' := #[.string x.f0, .int .i64 x.f1.f0, .int .i64 x.f1.f1, .slice none 0 0]) (yH (cs' := #[.string x.f0, .int .i64 x.f1.f0, .int .i64 0, .slice none 0 0]) (yH (cs' := #[.string x.f0, .int .i64 0, .int .i64 0, .slice none 0 0]) (BK.out) 0 _ rfl) 1 _ rfl) 2 _ rfl) 3 _ rfl))⟩; have n2_ : za (zi w w16 (fun k_ => P0_ k_)) := ⟨(by rw [hw]; exact (zi.setCell (p := ⟨gb, 3, none⟩) (zi.setCell (p := ⟨gb, 2, none⟩) (zi.setCell (p := ⟨gb, 1, none⟩) (zi.setCell (p := ⟨gb, 0, none⟩) (HK.out) (.inr GW.out) _) (.inr GW.out) _) (.inr GW.out) _) (.inr GW.out) _))⟩; have n3_ : za (Below w0.heap.size w0 w16) := ⟨(by rw [hw]; exact (zq (g := gb) (j := 3) (zq (g := gb) (j := 2) (zq (g := gb) (j := 1) (zq (g := gb) (j := 0) (HB.out) GE.out) GE.out) GE.out) GE.out))⟩; have n4_ : za (zi w14 w16 (fun k_ => k_ = gb)) := ⟨(by rw [hw]; exact (zi.setCell (p := ⟨gb, 3, none⟩) (zi.setCell (p := ⟨gb, 2, none⟩) (zi.setCell (p := ⟨gb, 1, none⟩) (zi.setCell (p := ⟨gb, 0, none⟩) (zi.refl w14 (fun k_ => k_ = gb)) (.inl rfl) _) (.inl rfl) _) (.inl rfl) _) (.inl rfl) _))⟩; have n5_ := za.mk (fun (g_ : Nat → Prop) (W_ : World) (hg_ : ∀ k_, g_ k_ → (P0_ k_ ∨ w.heap.size ≤ k_)) (hk_ : zi w16 W_ g_) => HIN.out (fun k_ => k_ = gb ∨ g_ k_) W_ (fun k_ h_ => h_.elim (fun e_ => .inr (by rw [e_]; exact GW.out)) (hg_ k_)) ((n4_.out.mono (fun _ h_ => .inl h_)).then_ hk_ (fun _ h_ => .inl (.inr h_)))); clear hw; clear HO_0; clear BK; clear HK; clear HB; clear HIN; have HO_0 := n0_; have BK := n1_; have HK := n2_; have HB := n3_; have HIN := n5_; clear n0_ n1_ n2_ n3_ n4_ n5_; clear hcz_0 hfz_0; clear hcz_1 hfz_1; clear hcz_2 hfz_2; clear hcz_3 hfz_3; have hcz_0 : w16.cell? ⟨gb, 0, none⟩ = some (.string x.f0) := (zk BK.out 0).trans rfl; have hfz_0 := zl BK.out 0; have hcz_1 : w16.cell? ⟨gb, 1, none⟩ = some (.int .i64 x.f1.f0) := (zk BK.out 1).trans rfl; have hfz_1 := zl BK.out 1; have hcz_2 : w16.cell? ⟨gb, 2, none⟩ = some (.int .i64 x.f1.f1) := (zk BK.out 2).trans rfl; have hfz_2 := zl BK.out 2; have hcz_3 : w16.cell? ⟨gb, 3, none⟩ = some (.slice Ai x.f1.f2.length ci) := (zk BK.out 3).trans rfl; have hfz_3 := zl BK.out 3; obtain ⟨Ao18, co18, eo18⟩ := Kd.R_slice HO_0.out; subst eo18) | ((with_reducible refine zJ (N := 23) rfl ?_); refine jT (some 23) rfl rfl Tryz.func142 (by kernel_rfl) rfl #[.slice Ao18 xs.length co18, .agg #[.string x.f0, .int .i64 x.f1.f0, .int .i64 x.f1.f1, .slice Ai x.f1.f2.length ci]] rfl (by (try simp only [zdI, List.map_cons, List.map_nil]); first | done | rfl) ?_; (with_reducible refine (yf.calls k (fun k_ => some k_ = (.slice Ao18 xs.length co18 : Value).ownBlock) (.slice Ao18 xs.length co18) xs x.f0 x.f1.f0 x.f1.f1 Ai ci x.f1.f2 t1 w0 _ ?side1 ?side2 ?side3 HL.out A13.out).mono ?_); (case side1 => exact HB.out); (case side2 => exact Kd.R_tight rfl HO_0.out); (case side3 => exact fun W_ hk_ => HIN.out _ W_ (fun k_ e_ => HO_0.out.1 k_ e_.symm) hk_); rintro e w19 ⟨v400, rfl, ho0, hb, hkp⟩; refine ⟨_, rfl, ?_⟩; have n1_ := za.mk (Kd.R_mono (ok' := (fun k_ => (P0_ k_ ∨ w.heap.size ≤ k_))) ho0 (fun k_ hk_ => Or.elim hk_ (fun hs_ => (HO_0.out.1 k_ (hs_).symm)) (fun hn_ => (.inr (Nat.le_trans HK.out.1 hn_))))); have n2_ := za.mk (zi.then_ (S := (fun k_ => P0_ k_)) HK.out hkp (fun k_ hs_ => (fun e_ => (HO_0.out.1 k_ e_.symm)) hs_)); have n3_ := za.mk (hb); clear BK; clear HK; clear HB; clear HO_0; have HO401 := n1_; have HK := n2_; have HB := n3_; clear n1_ n2_ n3_; (try clear hb); (try clear hkp); (try clear ho0)))
   go_roundg (l1.length - (i + 1))
   case measure => have := HI.out; omega
   case rel => exact ⟨t1, i + 1, (by have h_ : wrap64 ((i : Int) + 1) = ((i + 1 : Nat) : Int) := z9 (by omega) (by have := HLEN.out; omega); first | (rw [h_]) | (simp only [h_])), ⟨by omega⟩, H2, HO401, HK, HB⟩
  ·obtain rfl : i = l1.length := by have := HI.out; omega
   have ho := HA.out
   rw [List.drop_length, xF] at ho
   obtain rfl := Option.some.inj ho
   go_wp2
   go_ret
   exact ⟨_, rfl, HO_0.out, HB.out, HK.out⟩
theorem zcr (l : List Nat) (i : Nat) (h : i < l.length) : l.getD i 0 = l[i] := by simp [List.getD, h]
theorem zbB (s : ByteArray) (i : Nat) (h : i < s.size) : bt s (i : Int) = (((bl s).getD i 0 : Nat) : Int) := by
 rw [Xm s i h, zcr _ _ (by rw [z8]; exact h)]
def Zb (s : ByteArray) : Nat → Nat → List ByteArray
 | 0, a => [s.extract a s.size]
 | d + 1, a => if (bl s).getD (s.size - (d + 1)) 0 = 47 then s.extract a (s.size - (d + 1)) :: Zb s d (s.size - d) else Zb s d a
def jf (s : ByteArray) : List ByteArray := Zb s s.size 0
theorem zcs (s : ByteArray) (d : Nat) : ∀ a, 1 ≤ (Zb s d a).length ∧ (Zb s d a).length ≤ d + 1 := by
 induction d with
 | zero => intro a; exact ⟨Nat.le_refl _, Nat.le_refl _⟩
 | succ d ih =>
  intro a
  rw [Zb]
  split
  ·have := ih (s.size - d)
   rw [List.length_cons]
   omega
  ·have := ih a
   omega
theorem Q8 (s : ByteArray) : 1 ≤ (jf s).length ∧ (jf s).length ≤ s.size + 1 := zcs s s.size 0
theorem zcq (s : ByteArray) (hs : s.size ≤ 8796093022000) (d : Nat) : ∀ (k i a : Nat) (acc : List ByteArray), i + d = s.size → a ≤ i → acc.length ≤ i → d + 1 ≤ k → ye.l0 k s acc (a : Int) (s.size : Int) (i : Int) = some (acc ++ Zb s d a) := by
 induction d with
 | zero =>
  intro k i a acc hi ha hl hk
  obtain ⟨k, rfl⟩ : ∃ k', k = k' + 1 := ⟨k - 1, by omega⟩
  rw [ye.l0, if_neg (by omega), if_pos (by omega), if_pos (by omega), if_pos (by omega), Zb, Int.toNat_natCast]
 | succ d ih =>
  intro k i a acc hi ha hl hk
  obtain ⟨k, rfl⟩ : ∃ k', k = k' + 1 := ⟨k - 1, by omega⟩
  have e : s.size - (d + 1) = i := by omega
  have e2 : s.size - d = i + 1 := by omega
  rw [ye.l0, if_pos (by omega), if_pos (by omega), if_pos (by omega), zbB s i (by omega), Zb, e, e2]
  by_cases h : (bl s).getD i 0 = 47
  ·rw [if_pos (by omega), if_pos (by omega), if_pos (by omega), if_pos (by omega), if_pos (by omega), if_pos h, z9 (by omega) (by omega), Int.toNat_natCast, Int.toNat_natCast]
   have := ih k (i + 1) (i + 1) (acc ++ [s.extract a i]) (by omega) (Nat.le_refl _) (by simp; omega) (by omega)
   rw [List.append_assoc] at this
   exact this
  ·rw [if_neg (by omega), if_neg h, z9 (by omega) (by omega)]
   exact ih k (i + 1) a acc (by omega) (by omega) (by omega) (by omega)
theorem XS (s : ByteArray) (hs : s.size ≤ 8796093022000) (k : Nat) (hk : s.size + 1 ≤ k) : ye.f k s = some (jf s) := by
 have := zcq s hs s.size k 0 0 [] (by omega) (Nat.le_refl _) (Nat.le_refl _) hk
 rw [List.nil_append] at this
 exact this
def xn.f (k : Nat) (a0 : Int) (a1 : Int) (a2 : ByteArray) : Option (Bool) := (zB.f k a2).bind fun t309 => (some t309)
theorem xn.calls (k : Nat) (a0 : Int) (a1 : Int) (a2 : ByteArray) (r : Bool) (w : World) (h : xn.f k a0 a1 a2 = some r) :
  Calls Tryz.prog 178 #[.int .i64 a0, .int .i64 a1, .string a2] w fun e w' => e = .returned (.bool r) ∧ zj w w' := by
 have H : ((zB.f k a2).bind fun t309 => (some t309)) = some r := h
 clear h
 replace H := zdJ.mp H
 obtain ⟨t309, A40, H⟩ := H
 replace H : (some t309) = some r := H
 have A4 := za.mk A40
 clear A40
 obtain rfl := Option.some.inj H
 go_enter Tryz.func178, Tryz.ntmps178
 go_wp2_with (first | ((with_reducible refine zy (f := 177) rfl ?_); refine zU (some 8) rfl rfl Tryz.func177 (by kernel_rfl) rfl #[.string a2] rfl (by (try simp only [zdI, List.map_cons, List.map_nil]); first | done | rfl | (simp only [List.length_drop, List.length_take]; rfl)) ?_; (with_reducible refine (zB.calls k a2 t309 _ A4.out).mono ?_); rintro e w' ⟨rfl, ⟨nd, rfl⟩⟩; refine ⟨_, rfl, ?_⟩))
 go_ret
 exact ⟨by first | rfl | (simp; done) | (simp [*]; done), by repeat (first | exact zj.refl _ | apply zj.step)⟩
def zA.l0 : Nat → List ByteArray → List ByteArray → Int → Int → Option (Bool)
 | 0, _, _, _, _ => none
 | k + 1, x5, x13, x14, x15 => if x15 < x14 then (if 0 ≤ x15 then (if x15 < (x13.length : Int) then ((xn.f k x15 (x5.length : Int) (yW ByteArray.empty x13 x15)).bind fun t314 => (if t314 = true then (zA.l0 k x5 x13 x14 (wrap64 (x15 + 1))) else (some false))) else (none)) else (none)) else (some (decide ((x5.length : Int) ≤ 4)))
def zA.f (k : Nat) (a0 : ByteArray)  : Option (Bool) := if (a0.size : Int) > 32 then (some false) else ((ye.f k a0).bind fun t310 => (zA.l0 k t310 t310 (t310.length : Int) 0))
theorem zA.calls (k : Nat) (a0 : ByteArray)  (r : Bool) (w : World) (h : zA.f k a0 = some r) :
  Calls Tryz.prog 175 #[.string a0, .func (Fn.func 178) #[] #[]] w fun e w' => e = .returned (.bool r) ∧ Below w.heap.size w w' := by
 have HB := za.mk (Below.refl w.heap.size w)
 have H : (if (a0.size : Int) > 32 then (some false) else ((ye.f k a0).bind fun t310 => (zA.l0 k t310 t310 (t310.length : Int) 0))) = some r := h
 clear h
 by_cases c3 : (a0.size : Int) > 32
 ·rw [if_pos c3] at H
  have c3b0 : decide (32 < (a0.size : Int)) = true := decide_eq_true c3
  have c3b1 : decide (32 < a0.size) = true := decide_eq_true (by omega)
  clear c3
  obtain rfl := Option.some.inj H
  go_enter Tryz.func175, Tryz.ntmps175
  go_wp2
  go_ret
  exact ⟨by first | rfl | (simp [zn, zo] <;> rfl) | (simp [*, zn, zo] <;> rfl), by repeat (first | (with_reducible first | exact HB.out | apply zc | apply zb | apply zd) | exact HB.out)⟩
 ·rw [if_neg c3] at H
  have c3b0 : decide (32 < (a0.size : Int)) = false := decide_eq_false c3
  have c3b1 : decide (32 < a0.size) = false := decide_eq_false (by omega)
  clear c3
  replace H := zdJ.mp H
  obtain ⟨t310, A40, H⟩ := H
  replace H : (zA.l0 k t310 t310 (t310.length : Int) 0) = some r := H
  have A4 := za.mk A40
  clear A40
  have H' := za.mk H
  clear H
  go_enter Tryz.func175, Tryz.ntmps175
  go_wp2_with (first | ((with_reducible refine zy (f := 182) rfl ?_); refine zU (some 12) rfl rfl Tryz.func182 (by kernel_rfl) rfl #[.string a0] rfl (by (try simp only [zdI, List.map_cons, List.map_nil]); first | done | rfl | (simp only [List.length_drop, List.length_take]; rfl)) ?_; (with_reducible refine (ye.calls k a0 t310 _ A4.out).mono ?_); rintro e w5 ⟨v311, rfl, ho0, hb⟩; refine ⟨_, rfl, ?_⟩; have n0_ := za.mk (Kd.R_lower ho0 (zG (by repeat (first | (with_reducible first | exact HB.out | apply zc | apply zb | apply zd) | exact HB.out)))); have n1_ := za.mk (zp (by repeat (first | (with_reducible first | exact HB.out | apply zc | apply zb | apply zd) | exact HB.out)) hb); clear HB; have HO312 := n0_; have HB := n1_; clear n0_ n1_; (try clear hb); (try clear hb2); (try clear hk); (try clear hi); (try clear ho0); obtain ⟨Ao6, co6, eo6⟩ := Kd.R_slice HO312.out; subst eo6))
  go_loopg [15] k (fun kq v15 w' => ∃ (x15_1 : Int), v15 = .int .i64 x15_1 ∧ za (zA.l0 kq t310 t310 (t310.length : Int) x15_1 = some r) ∧ za (kq ≤ k) ∧ za (Kd.R Kd.string 9 w' w.heap.size (fun _ => True) (.slice Ao6 t310.length co6) t310) ∧ za (Kd.R Kd.string 9 w' w.heap.size (fun _ => True) (.slice Ao6 t310.length co6) t310) ∧ za (Below w.heap.size w w'))
  case atStart => exact ⟨(0), (by first | rfl | (simp; done) | (simp [*]; done)), H', ⟨Nat.le_refl _⟩, ⟨by (with_reducible repeat (first | apply Kd.R_alloc | apply Kd.R_drewN | apply Kd.R_drew)); exact HO312.out⟩, ⟨by (with_reducible repeat (first | apply Kd.R_alloc | apply Kd.R_drewN | apply Kd.R_drew)); exact HO312.out⟩, ⟨by repeat (first | (with_reducible first | exact HB.out | apply zc | apply zb | apply zd) | exact HB.out)⟩⟩
  case round =>
   clear H'
   try clear c1
   try clear p2
   try clear c3
   try clear c3b0
   try clear c3b1
   obtain ⟨x15_1, rfl, HA, HK1, HO_5, HO_13, HB⟩ := hrel
   cases gk with
   | zero => exact absurd HA.out (by simp [zA.l0])
   | succ k1 =>
    have H := HA.out
    clear HA
    simp only [zA.l0] at H
    by_cases c7 : x15_1 < (t310.length : Int)
    ·rw [if_pos c7] at H
     have c7b0 : decide (x15_1 < (t310.length : Int)) = true := decide_eq_true c7
     clear c7
     by_cases c8 : 0 ≤ x15_1
     ·rw [if_pos c8] at H
      have c8b0 : decide (0 ≤ x15_1) = true := decide_eq_true c8
      clear c8
      by_cases c9 : x15_1 < (t310.length : Int)
      ·rw [if_pos c9] at H
       have c9b0 : decide (x15_1 < (t310.length : Int)) = true := decide_eq_true c9
       clear c9
       replace H := zdJ.mp H
       obtain ⟨t314, A100, H⟩ := H
       replace H : (if t314 = true then (zA.l0 k1 t310 t310 (t310.length : Int) (wrap64 (x15_1 + 1))) else (some false)) = some r := H
       have A10 := za.mk A100
       clear A100
       by_cases c11 : t314 = true
       ·subst c11
        have H1 : (zA.l0 k1 t310 t310 (t310.length : Int) (wrap64 (x15_1 + 1))) = some r := by rw [if_pos rfl] at H; exact H
        clear H
        have H := H1
        clear H1
        have H' := za.mk H
        clear H
        have p313 : 0 ≤ (x15_1 : Int) := of_decide_eq_true (by first | (with_reducible assumption) | assumption)
        have q313 : x15_1 < (t310.length : Int) := of_decide_eq_true (by first | (with_reducible assumption) | assumption)
        obtain ⟨ad313, e313, hx313_0⟩ := Kd.at_string (Kd.R_reads' HO_13.out).2.2 x15_1 p313 q313
        cases e313
        replace p313 := eq_true p313
        replace q313 := eq_true q313
        go_wp2_with (first | ((with_reducible refine zJ (N := 25) rfl ?_); refine jT (some 25) rfl rfl Tryz.func178 (by kernel_rfl) rfl #[.int .i64 x15_1, .int .i64 (t310.length : Int), .string (yW ByteArray.empty t310 x15_1)] rfl (by (try simp only [zdI, List.map_cons, List.map_nil]); first | done | rfl | (simp only [List.length_drop, List.length_take]; rfl)) ?_; (with_reducible refine (xn.calls k1 x15_1 (t310.length : Int) (yW ByteArray.empty t310 x15_1) true _ A10.out).mono ?_); rintro e w' ⟨rfl, ⟨nd, rfl⟩⟩; refine ⟨_, rfl, ?_⟩))
        go_roundg k1
        case measure => have := HK1.out; omega
        case rel => exact ⟨(wrap64 (x15_1 + 1)), (by first | rfl | (simp; done) | (simp [*]; done)), H', ⟨by have := HK1.out; omega⟩, ⟨by (with_reducible repeat (first | apply Kd.R_alloc | apply Kd.R_drewN | apply Kd.R_drew)); exact HO_5.out⟩, ⟨by (with_reducible repeat (first | apply Kd.R_alloc | apply Kd.R_drewN | apply Kd.R_drew)); exact HO_13.out⟩, ⟨by repeat (first | (with_reducible first | exact HB.out | apply zc | apply zb | apply zd) | exact HB.out)⟩⟩
       ·replace c11 := zdL.mpr c11
        subst c11
        have H1 : (some false) = some r := by rw [if_neg (show ¬ (false = true) by decide)] at H; exact H
        clear H
        have H := H1
        clear H1
        obtain rfl := Option.some.inj H
        have p313 : 0 ≤ (x15_1 : Int) := of_decide_eq_true (by first | (with_reducible assumption) | assumption)
        have q313 : x15_1 < (t310.length : Int) := of_decide_eq_true (by first | (with_reducible assumption) | assumption)
        obtain ⟨ad313, e313, hx313_0⟩ := Kd.at_string (Kd.R_reads' HO_13.out).2.2 x15_1 p313 q313
        cases e313
        replace p313 := eq_true p313
        replace q313 := eq_true q313
        go_wp2_with (first | ((with_reducible refine zJ (N := 25) rfl ?_); refine jT (some 25) rfl rfl Tryz.func178 (by kernel_rfl) rfl #[.int .i64 x15_1, .int .i64 (t310.length : Int), .string (yW ByteArray.empty t310 x15_1)] rfl (by (try simp only [zdI, List.map_cons, List.map_nil]); first | done | rfl | (simp only [List.length_drop, List.length_take]; rfl)) ?_; (with_reducible refine (xn.calls k1 x15_1 (t310.length : Int) (yW ByteArray.empty t310 x15_1) false _ A10.out).mono ?_); rintro e w' ⟨rfl, ⟨nd, rfl⟩⟩; refine ⟨_, rfl, ?_⟩))
        go_ret
        exact ⟨by first | rfl | (simp [zn, zo] <;> rfl) | (simp [*, zn, zo] <;> rfl), by repeat (first | (with_reducible first | exact HB.out | apply zc | apply zb | apply zd) | exact HB.out)⟩
      ·rw [if_neg c9] at H
       exact absurd H (by simp)
     ·rw [if_neg c8] at H
      exact absurd H (by simp)
    ·rw [if_neg c7] at H
     have c7b0 : decide (x15_1 < (t310.length : Int)) = false := decide_eq_false c7
     clear c7
     obtain rfl := Option.some.inj H
     go_wp2
     go_ret
     exact ⟨by first | rfl | (simp [zn, zo] <;> rfl) | (simp [*, zn, zo] <;> rfl), by repeat (first | (with_reducible first | exact HB.out | apply zc | apply zb | apply zd) | exact HB.out)⟩
def yB.f (k : Nat) (a0 : ByteArray) : Option (Bool) := (zA.f k a0).bind fun t315 => (some t315)
theorem yB.calls (k : Nat) (a0 : ByteArray) (r : Bool) (w : World) (h : yB.f k a0 = some r) :
  Calls Tryz.prog 166 #[.string a0] w fun e w' => e = .returned (.bool r) ∧ Below w.heap.size w w' := by
 have HB := za.mk (Below.refl w.heap.size w)
 have H : ((zA.f k a0).bind fun t315 => (some t315)) = some r := h
 clear h
 replace H := zdJ.mp H
 obtain ⟨t315, A20, H⟩ := H
 replace H : (some t315) = some r := H
 have A2 := za.mk A20
 clear A20
 obtain rfl := Option.some.inj H
 go_enter Tryz.func166, Tryz.ntmps166
 go_wp2_with (first | ((with_reducible refine zy (f := 175) rfl ?_); refine zU (some 4) rfl rfl Tryz.func175 (by kernel_rfl) rfl #[.string a0, .func (Fn.func 178) #[] #[]] rfl (by (try simp only [zdI, List.map_cons, List.map_nil]); first | done | rfl | (simp only [List.length_drop, List.length_take]; rfl)) ?_; (with_reducible refine (zA.calls k a0 t315 _ A2.out).mono ?_); rintro e w3 ⟨rfl, hb⟩; refine ⟨_, rfl, ?_⟩; have n0_ := za.mk (zp (by repeat (first | (with_reducible first | exact HB.out | apply zc | apply zb | apply zd) | exact HB.out)) hb); clear HB; have HB := n0_; clear n0_; (try clear hb); (try clear hb2); (try clear hk); (try clear hi)))
 go_ret
 exact ⟨by first | rfl | (simp [zn, zo] <;> rfl) | (simp [*, zn, zo] <;> rfl), by repeat (first | (with_reducible first | exact HB.out | apply zc | apply zb | apply zd) | exact HB.out)⟩
def okB (c : Nat) : Bool := decide (97 ≤ c ∧ c ≤ 122 ∨ 48 ≤ c ∧ c ≤ 57 ∨ c = 45 ∨ c = 95)
def Xk (l : List Nat) : Bool := l.all okB
def jx (s : ByteArray) : Bool := decide (0 < s.size) && Xk (bl s)
theorem zch (s : ByteArray) (hs : s.size ≤ 8796093022000) (d : Nat) : ∀ (k i : Nat), i + d = s.size → 3 * d + 3 ≤ k → zB.l0 k s (s.size : Int) (i : Int) = some (Xk ((bl s).drop i)) := by
 induction d with
 | zero =>
  intro k i hi hk
  obtain ⟨k, rfl⟩ : ∃ k', k = k' + 1 := ⟨k - 1, by omega⟩
  rw [zB.l0, if_neg (by omega), List.drop_eq_nil_of_le (by rw [z8]; omega)]
  rfl
 | succ d ih =>
  intro k i hi hk
  obtain ⟨k, rfl⟩ : ∃ k', k = k' + 3 := ⟨k - 3, by omega⟩
  have hb := Xm s i (by omega)
  have hi1 := ih (k + 1) (i + 1) (by omega) (by omega)
  have hi2 := ih k (i + 1) (by omega) (by omega)
  rw [zB.l0, if_pos (by omega), if_pos (by omega), if_pos (by omega), hb, Yi s i (by omega)]
  generalize (bl s)[i]'(by rw [z8]; omega) = c
  have ha : Xk (c :: (bl s).drop (i + 1)) = (okB c && Xk ((bl s).drop (i + 1))) := rfl
  have hok : okB c = decide (97 ≤ c ∧ c ≤ 122 ∨ 48 ≤ c ∧ c ≤ 57 ∨ c = 45 ∨ c = 95) := rfl
  have hj2 : ∀ b : Bool, zB.j2 (k + 1) s (c : Int) (s.size : Int) (i : Int) b = some ((b || decide (c = 45 ∨ c = 95)) && Xk ((bl s).drop (i + 1))) := by
   intro b
   rw [zB.j2, z9 (by omega) (by omega)]
   cases b with
   | true => rw [if_pos rfl]; exact hi2
   | false =>
    rw [if_neg (by decide)]
    by_cases h1 : c = 45
    ·rw [if_pos (by omega), decide_eq_true (by omega : c = 45 ∨ c = 95)]; exact hi2
    ·rw [if_neg (by omega)]
     by_cases h2 : c = 95
     ·rw [if_pos (by omega), decide_eq_true (by omega : c = 45 ∨ c = 95)]; exact hi2
     ·rw [if_neg (by omega), decide_eq_false (by omega : ¬ (c = 45 ∨ c = 95))]; rfl
  have hj1 : ∀ b : Bool, zB.j1 (k + 2) s (c : Int) (s.size : Int) (i : Int) b = some ((b || (decide (48 ≤ c ∧ c ≤ 57) || decide (c = 45 ∨ c = 95))) && Xk ((bl s).drop (i + 1))) := by
   intro b
   rw [zB.j1, z9 (by omega) (by omega)]
   cases b with
   | true => rw [if_pos rfl]; exact hi1
   | false =>
    rw [if_neg (by decide)]
    by_cases h1 : 48 ≤ c
    ·rw [if_pos (by omega), hj2]
     by_cases h2 : c ≤ 57
     ·rw [decide_eq_true (by omega : (c : Int) ≤ 57), decide_eq_true (by omega : 48 ≤ c ∧ c ≤ 57)]; rfl
     ·rw [decide_eq_false (by omega : ¬ (c : Int) ≤ 57), decide_eq_false (by omega : ¬ (48 ≤ c ∧ c ≤ 57))]; rfl
    ·rw [if_neg (by omega), hj2, decide_eq_false (by omega : ¬ (48 ≤ c ∧ c ≤ 57))]; rfl
  rw [ha, hok]
  by_cases h1 : 97 ≤ c
  ·rw [if_pos (by omega), hj1]
   by_cases h2 : c ≤ 122
   ·rw [decide_eq_true (by omega : (c : Int) ≤ 122), decide_eq_true (by omega : 97 ≤ c ∧ c ≤ 122 ∨ 48 ≤ c ∧ c ≤ 57 ∨ c = 45 ∨ c = 95)]; rfl
   ·rw [decide_eq_false (by omega : ¬ (c : Int) ≤ 122), decide_eq_false (by omega : ¬ (97 ≤ c ∧ c ≤ 122 ∨ 48 ≤ c ∧ c ≤ 57 ∨ c = 45 ∨ c = 95)), decide_eq_false (by omega : ¬ (48 ≤ c ∧ c ≤ 57)), decide_eq_false (by omega : ¬ (c = 45 ∨ c = 95))]; rfl
  ·rw [if_neg (by omega), hj1]
   have e : (false || (decide (48 ≤ c ∧ c ≤ 57) || decide (c = 45 ∨ c = 95))) = decide (97 ≤ c ∧ c ≤ 122 ∨ 48 ≤ c ∧ c ≤ 57 ∨ c = 45 ∨ c = 95) := by
    rw [Bool.false_or, ← Bool.decide_or]
    exact decide_eq_decide.mpr (by omega)
   rw [e]
theorem Yq (s : ByteArray) : s.toList = ([] : List UInt8) ↔ s.size = 0 := by
 have e : ([] : List UInt8) = (⟨#[]⟩ : ByteArray).toList := by rw [ByteArray.toList, ByteArray.toList.loop]; rfl
 rw [e, jl]
 constructor
 ·rintro rfl; rfl
 ·intro h
  apply qo
  have : (bl s).length = 0 := by rw [z8]; exact h
  rw [List.length_eq_zero_iff.mp this]
  rfl
theorem XQ (s : ByteArray) (hs : s.size ≤ 8796093022000) (k : Nat) (hk : 3 * s.size + 3 ≤ k) : zB.f k s = some (jx s) := by
 unfold zB.f jx
 by_cases h : s.size = 0
 ·rw [if_pos ((Yq s).mpr h), decide_eq_false (by omega)]; rfl
 ·rw [if_neg (fun h' => h ((Yq s).mp h')), decide_eq_true (by omega)]
  have := zch s hs s.size k 0 (by omega) hk
  rw [List.drop_zero] at this
  rw [Bool.true_and]
  exact this
theorem zbq (l : List ByteArray) (i : Nat) (h : i < l.length) : yW ByteArray.empty l (i : Int) = l[i] := by
 simp [yW, h]
theorem zbe (s : ByteArray) (d : Nat) : ∀ a, ∀ x ∈ Zb s d a, x.size ≤ s.size := by
 have hz : ∀ a b, (s.extract a b).size ≤ s.size := fun a b => by
  rw [← z8, yK, List.length_drop, List.length_take, z8]
  omega
 induction d with
 | zero => intro a x hx; rw [Zb, List.mem_singleton] at hx; rw [hx]; exact hz _ _
 | succ d ih =>
  intro a x
  rw [Zb]
  split
  ·intro hx
   rcases List.mem_cons.mp hx with rfl | hx
   ·exact hz _ _
   ·exact ih _ x hx
  ·exact ih _ x
theorem XZ (s : ByteArray) : ∀ x ∈ jf s, x.size ≤ s.size := zbe s s.size 0
def Vk (l : List ByteArray) : Bool := l.all jx && decide (l.length ≤ 4)
def qH (s : ByteArray) : Bool := decide (s.size ≤ 32) && Vk (jf s)
theorem Jh (l : List ByteArray) (hl : l.length ≤ 1000000) (M : Nat) (hM : M ≤ 1000) (hz : ∀ x ∈ l, x.size ≤ M) (d : Nat) : ∀ (k i : Nat), i + d = l.length → d + 3 * M + 5 ≤ k → zA.l0 k l l (l.length : Int) (i : Int) = some ((l.drop i).all jx && decide (l.length ≤ 4)) := by
 induction d with
 | zero =>
  intro k i hi hk
  obtain ⟨k, rfl⟩ : ∃ k', k = k' + 1 := ⟨k - 1, by omega⟩
  have e : decide ((l.length : Int) ≤ 4) = decide (l.length ≤ 4) := decide_eq_decide.mpr (by omega)
  rw [zA.l0, if_neg (by omega), List.drop_eq_nil_of_le (by omega), e]
  rfl
 | succ d ih =>
  intro k i hi hk
  obtain ⟨k, rfl⟩ : ∃ k', k = k' + 1 := ⟨k - 1, by omega⟩
  have hx : l[i].size ≤ M := hz _ (List.getElem_mem _)
  have hp : xn.f k (i : Int) (l.length : Int) l[i] = some (jx l[i]) := by
   unfold xn.f
   rw [zD (XQ l[i] (by omega) k (by omega))]
  rw [zA.l0, if_pos (by omega), if_pos (by omega), if_pos (by omega), zbq l i (by omega), zD hp, List.drop_eq_getElem_cons (by omega), List.all_cons, z9 (by omega) (by omega)]
  cases jx l[i] with
  | true => rw [if_pos rfl, Bool.true_and]; exact ih k (i + 1) (by omega) (by omega)
  | false => rw [if_neg (by decide), Bool.false_and, Bool.false_and]
theorem XE (s : ByteArray) (k : Nat) (hk : 300 ≤ k) : yB.f k s = some (qH s) := by
 have h : zA.f k s = some (qH s) := by
  unfold zA.f qH Vk
  by_cases h : s.size ≤ 32
  ·have := Q8 s
   rw [if_neg (by omega), zD (XS s (by omega) k (by omega)), decide_eq_true h, Bool.true_and]
   exact Jh (jf s) (by omega) 32 (by omega) (fun x hx => Nat.le_trans (XZ s x hx) h) (jf s).length k 0 (by omega) (by omega)
  ·rw [if_pos (by omega), decide_eq_false h, Bool.false_and]
 unfold yB.f
 rw [zD h]
def QL : ByteArray := ⟨#[42]⟩
def Yu : ByteArray := ⟨#[42, 42]⟩
theorem za6 : QL.toList = ([42] : List UInt8) := by decide +kernel
theorem VG : Yu.toList = ([42, 42] : List UInt8) := by decide +kernel
theorem Vs (x : ByteArray) : x.toList = ([42] : List UInt8) ↔ x = QL := by rw [← za6, jl]
theorem JM (x : ByteArray) : x.toList = ([42, 42] : List UInt8) ↔ x = Yu := by rw [← VG, jl]
instance : DecidableEq ByteArray := fun a b => decidable_of_iff (a.toList = b.toList) jl
def patL : List ByteArray → Bool
 | [] => true
 | x :: l => (jx x || decide (x = QL) || decide (x = Yu ∧ l = [])) && patL l
def jh (s : ByteArray) : Bool := decide (s.size ≤ 32) && (patL (jf s) && decide ((jf s).length ≤ 4))
theorem QI (l : List ByteArray) (hl : l.length ≤ 1000000) (M : Nat) (hM : M ≤ 1000) (hz : ∀ x ∈ l, x.size ≤ M) (d : Nat) : ∀ (k i : Nat), i + d = l.length → d + 3 * M + 5 ≤ k → zz.l0 k l l (l.length : Int) (i : Int) = some (patL (l.drop i) && decide (l.length ≤ 4)) := by
 induction d with
 | zero =>
  intro k i hi hk
  obtain ⟨k, rfl⟩ : ∃ k', k = k' + 1 := ⟨k - 1, by omega⟩
  have e : decide ((l.length : Int) ≤ 4) = decide (l.length ≤ 4) := decide_eq_decide.mpr (by omega)
  rw [zz.l0, if_neg (by omega), List.drop_eq_nil_of_le (by omega), e]
  rfl
 | succ d ih =>
  intro k i hi hk
  obtain ⟨k, rfl⟩ : ∃ k', k = k' + 1 := ⟨k - 1, by omega⟩
  have hx : l[i].size ≤ M := hz _ (List.getElem_mem _)
  have hn : l.drop (i + 1) = [] ↔ i + 1 = l.length := by
   rw [List.drop_eq_nil_iff]
   omega
  have hp : xd.f k (i : Int) (l.length : Int) l[i] = some (jx l[i] || decide (l[i] = QL) || decide (l[i] = Yu ∧ l.drop (i + 1) = [])) := by
   unfold xd.f
   rw [zD (XQ l[i] (by omega) k (by omega)), xL (by omega) (by omega)]
   cases jx l[i] with
   | true => rw [if_pos rfl, Bool.true_or, Bool.true_or]
   | false =>
    rw [if_neg (by decide), Bool.false_or]
    by_cases h1 : l[i] = QL
    ·rw [if_pos ((Vs _).mpr h1), decide_eq_true h1, Bool.true_or]
    ·rw [if_neg (fun h => h1 ((Vs _).mp h)), decide_eq_false h1, Bool.false_or]
     by_cases h2 : l[i] = Yu
     ·rw [if_pos ((JM _).mpr h2)]
      have e : ((i : Int) == (l.length : Int) - 1) = decide (l[i] = Yu ∧ l.drop (i + 1) = []) := by
       rw [Bool.eq_iff_iff, beq_iff_eq, decide_eq_true_eq, hn]
       constructor
       ·intro h; exact ⟨h2, by omega⟩
       ·intro h; omega
      rw [e]
     ·rw [if_neg (fun h => h2 ((JM _).mp h)), decide_eq_false (fun h => h2 h.1)]
  rw [zz.l0, if_pos (by omega), if_pos (by omega), if_pos (by omega), zbq l i (by omega), zD hp, (List.drop_eq_getElem_cons (by omega) : l.drop i = l[i] :: l.drop (i + 1)), patL, z9 (by omega) (by omega)]
  cases (jx l[i] || decide (l[i] = QL) || decide (l[i] = Yu ∧ l.drop (i + 1) = [])) with
  | true => rw [if_pos rfl, Bool.true_and]; exact ih k (i + 1) (by omega) (by omega)
  | false => rw [if_neg (by decide), Bool.false_and, Bool.false_and]
theorem JQ (s : ByteArray) (k : Nat) (hk : 300 ≤ k) : xz.f k s = some (jh s) := by
 have h : zz.f k s = some (jh s) := by
  unfold zz.f jh
  by_cases h : s.size ≤ 32
  ·have := Q8 s
   rw [if_neg (by omega), zD (XS s (by omega) k (by omega)), decide_eq_true h, Bool.true_and]
   exact QI (jf s) (by omega) 32 (by omega) (fun x hx => Nat.le_trans (XZ s x hx) h) (jf s).length k 0 (by omega) (by omega)
  ·rw [if_pos (by omega), decide_eq_false h, Bool.false_and]
 unfold xz.f
 rw [zD h]
def XV : List Nat → List Nat → Bool
 | [], [] => false
 | [], _ :: _ => true
 | _ :: _, [] => false
 | a :: x, b :: y => if a = b then XV x y else decide (a < b)
theorem XC : ∀ x y : List UInt8, XV (x.map (·.toNat)) (y.map (·.toNat)) = Op.bytesLess x y
 | [], [] => rfl
 | [], _ :: _ => rfl
 | _ :: _, [] => rfl
 | a :: x, b :: y => by
  have ih := XC x y
  rw [List.map_cons, List.map_cons, XV, Op.bytesLess, ih]
  by_cases h : a = b
  ·subst h
   have h1 : decide (a < a) = false := decide_eq_false (by simp)
   have h3 : (a == a) = true := by simp
   rw [if_pos rfl, h1, h3, Bool.false_or, Bool.true_and]
  ·have h3 : (a == b) = false := by simp [h]
   have hab : ¬ a.toNat = b.toNat := fun h' => h (UInt8.toNat_inj.mp h')
   rw [if_neg hab, h3, Bool.false_and, Bool.or_false]
   exact decide_eq_decide.mpr UInt8.lt_iff_toNat_lt.symm
theorem JA (s t : ByteArray) : Op.bytesLess s.toList t.toList = XV (bl s) (bl t) := by
 rw [Go.Lib.toList_data, Go.Lib.toList_data, ← XC]
 rfl
theorem VV (k : Nat) (A : Option Addr) (c : Nat) (l : List ByteArray) (t0 : ByteArray) (r1 : ByteArray) (r2 : Int) (w : World) (hr : Kd.C Kd.string w A l.length l) (hc : l.length ≤ c) (hl : l.length ≤ 256) (ht : zX.f (l.length : Int) = some t0) (h0 : t0.size ≤ 140737488351232) (h : jm (yQ.f) l (bytesOf t0) = some (r1, r2)) :
  Calls Tryz.prog 167 #[.slice A l.length c, .func (Fn.func 103) #[] #[]] w fun e w' => e = .returned (.tuple #[.string r1, .int .i64 r2]) ∧ Below w.heap.size w w' := by
 have HT := za.mk ht
 have HL := za.mk h
 have HR := za.mk hr
 have hcv := fun W : World => Lib.run_convert_string_bytes (P := Tryz.prog) W 9 41 5 t0 Tryz.underlying9 Tryz.underlying41 Tryz.underlying5
 clear ht h hr
 obtain ⟨i0, hi, hz0, hz1, hz2⟩ := info_parts Jp
 go_enter Tryz.func167, Tryz.ntmps167
 go_wp2_with (first | (go_at_call 57; refine (zX.calls (l.length : Int) t0 _ HT.out).mono ?_; rintro e w1 ⟨rfl, hb⟩; have HB1 := za.mk hb; have HM1 := za.mk (yv.of_bytes w1 w.heap.size 5 t0 HB1.out.size (by simp only [maxLen]; omega)); have HB2 := za.mk (xW HB1.out HB1.out.size 5 t0)))
 have hcv0 := za.mk hcv
 clear hcv
 go_loopg [6, 20] l.length (fun kq vb vi wr => ∃ (i : Nat) (xs : List Int), vi = .int .i64 i ∧ za (i + kq = l.length) ∧ za (jm (yQ.f) (l.drop i) xs = some (r1, r2)) ∧ za (yv wr w.heap.size 5 vb (yp .u8 xs)) ∧ za (Below w.heap.size w wr))
 case atStart => exact ⟨0, bytesOf t0, rfl, ⟨by simp⟩, ⟨by rw [List.drop_zero]; exact HL.out⟩, ⟨by rw [← xQ]; exact HM1.out⟩, HB2⟩
 case round =>
  clear HB2 HM1
  obtain ⟨i, xs, rfl, HK, HO, HM, HB⟩ := hrel
  have hil : i ≤ l.length := by have := HK.out; omega
  by_cases hlt : i < l.length
  ·obtain ⟨ad, ea, hcell⟩ := Kd.at_string HR.out (i : Int) (by omega) (by omega)
   cases ea
   replace hcell := (HB.out.cell (zdK w _ hcell)).trans hcell
   rw [Int.toNat_natCast] at hcell
   obtain ⟨x, hx⟩ : ∃ x, x = yW ByteArray.empty l (i : Int) := ⟨_, rfl⟩
   rw [← hx] at hcell
   have ho := HO.out
   rw [List.drop_eq_getElem_cons hlt, jm, zdJ] at ho
   rw [Vp l i hlt] at hx
   rw [← hx] at ho
   obtain ⟨⟨s, e2⟩, hs, ho⟩ := ho
   have HS := za.mk hs
   have HO2 := za.mk ho
   clear hs ho hx HO
   by_cases he : e2 = 0
   ·subst he
    have ho := HO2.out
    rw [if_pos rfl] at ho
    by_cases hfit : xs.length + s.size ≤ 140737488355328
    ·rw [if_pos hfit] at ho
     have HO3 := za.mk ho
     have HF := za.mk hfit
     clear ho HO2 hfit
     go_wp2_with (first
      | (go_at_call 103; refine (yQ.calls x s 0 _ HS.out).mono ?_; rintro e w2 ⟨rfl, hb⟩; have HB3 := za.mk (Below.trans HB.out (hb.mono HB.out.size)); have HM3 := za.mk (HM.out.below hb); clear hb HB HM)
      | ((with_reducible refine zJ (N := 35) rfl ?_); refine yG _ rfl (.tmp 33) (.tmp 34) 41 9 rfl w.heap.size 5 i0 Tryz.underlying41 Tryz.underlying9 hi hz0 hz1 hz2 _ (yp .u8 xs) rfl HM3.out s rfl (by rw [xw]; exact HF.out) HB3.out.size ?_; intro v1 w3 hm1 hg1; rw [qO] at hm1; have HM4 := za.mk hm1; have HB4 := za.mk (HB3.out.grown hg1 HB3.out.size (fun k hk => HM3.out.base_le k hk)); clear hm1 hg1))
     go_roundg (l.length - (i + 1))
     case measure => have := HK.out; omega
     case rel => exact ⟨i + 1, xs ++ bytesOf s, by go_num, ⟨by omega⟩, HO3, HM4, HB4⟩
    ·rw [if_neg hfit] at ho
     cases ho
   ·have ho := HO2.out
    rw [if_neg he] at ho
    simp only [Option.some.injEq, Prod.mk.injEq] at ho
    obtain ⟨rfl, rfl⟩ := ho
    go_wp2_with (go_at_call 103; refine (yQ.calls x s e2 _ HS.out).mono ?_; rintro e w2 ⟨rfl, hb⟩; have HB3 := za.mk (Below.trans HB.out (hb.mono HB.out.size)); clear hb)
    go_ret2
    exact ⟨rfl, HB3.out⟩
  ·obtain rfl : i = l.length := by omega
   have ho := HO.out
   rw [List.drop_length, jm] at ho
   simp only [Option.some.injEq, Prod.mk.injEq] at ho
   obtain ⟨hs, rfl⟩ := ho
   have hcs := yv.to_string (P := Tryz.prog) Tryz.underlying41 Tryz.underlying5 Tryz.underlying9 HM.out
   rw [hs] at hcs
   clear hs
   go_wp2
   go_ret2
   exact ⟨rfl, HB.out⟩
def qh.f (l : List ByteArray) : Option (ByteArray × Int) :=
 if 256 < l.length then some (⟨#[]⟩, 4) else (zX.f (l.length : Int)).bind fun t => jm yQ.f l (bytesOf t)
set_option maxHeartbeats 1000000 in
theorem qh.calls (A : Option Addr) (c : Nat) (l : List ByteArray) (r1 : ByteArray) (r2 : Int) (w : World) (hr : Kd.C Kd.string w A l.length l) (hc : l.length ≤ c) (h : qh.f l = some (r1, r2)) :
  Calls Tryz.prog 131 #[.slice A l.length c] w fun e w' => e = .returned (.tuple #[.string r1, .int .i64 r2]) ∧ Below w.heap.size w w' := by
 have hbig : 256 < l.length → Calls Tryz.prog 167 #[.slice A l.length c, .func (Fn.func 103) #[] #[]] w fun e w' => e = .returned (.tuple #[.string ⟨#[]⟩, .int .i64 4]) ∧ Below w.heap.size w w' := by
  intro hb
  go_enter Tryz.func167, Tryz.ntmps167
  go_wp2
  go_ret2
  exact ⟨rfl, Below.refl _ _⟩
 have HC : za (Calls Tryz.prog 167 #[.slice A l.length c, .func (Fn.func 103) #[] #[]] w fun e w' => e = .returned (.tuple #[.string r1, .int .i64 r2]) ∧ Below w.heap.size w w') := by
  unfold qh.f at h
  by_cases hb : 256 < l.length
  ·rw [if_pos hb] at h
   simp only [Option.some.injEq, Prod.mk.injEq] at h
   obtain ⟨rfl, rfl⟩ := h
   exact ⟨hbig hb⟩
  ·rw [if_neg hb, zdJ] at h
   obtain ⟨t, ht, h⟩ := h
   have hz : t.size ≤ 140737488351232 := by
    unfold zX.f at ht
    split at ht
    ·obtain rfl := Option.some.inj ht
     have := zN (l.length : Int)
     omega
    ·cases ht
   exact ⟨VV 0 A c l t r1 r2 w hr hc (by omega) ht hz h⟩
 clear hbig h hr
 go_enter Tryz.func131, Tryz.ntmps131
 go_wp2_with (go_at_call 167; refine HC.out.mono ?_; rintro e w1 ⟨rfl, hb⟩; have HB := za.mk hb; clear hb)
 go_ret2
 exact ⟨rfl, HB.out⟩
theorem qZ (n : Int) (h0 : -9223372036854775808 ≤ n) (h1 : n ≤ 9223372036854775807) : zX.f n = some (zW n) := by
 unfold zX.f
 rw [if_pos ⟨h0, h1⟩]
theorem zbM (n : Int) : (zW n).size = (xJ 10 (zig n)).length := by
 unfold zW
 rw [strOfNums_size, qT, List.length_map]
def qB (s : ByteArray) : ByteArray × Int := if 4096 < s.size then (⟨#[]⟩, 4) else (zW (s.size : Int) ++ s, 0)
def qC {α : Type} (T : α → ByteArray × Int) : List α → ByteArray → ByteArray × Int
 | [], acc => (acc, 0)
 | x :: l, acc => if (T x).2 = 0 then qC T l (acc ++ (T x).1) else (⟨#[]⟩, (T x).2)
theorem jk (s : ByteArray) : (qB s).1.size ≤ 4106 := by
 unfold qB
 split
 ·exact Nat.zero_le _
 ·have := zN (s.size : Int)
  rw [ByteArray.size_append]
  omega
theorem Y0 (s : ByteArray) (hs : s.size ≤ 140737488351232) : yQ.f s = some (qB s) := by
 unfold yQ.f qB
 by_cases h : 4096 < s.size
 ·rw [if_pos (by omega), if_pos h]
 ·have := zN (s.size : Int)
  rw [if_neg (by omega), if_neg h, zD (qZ _ (by omega) (by omega)), if_pos (by omega)]
theorem Ql {α : Type} (T : α → Option (ByteArray × Int)) (R : α → ByteArray × Int) (M : Nat) (hM : M ≤ 100000) (l : List α) : ∀ acc : List Int, (∀ x ∈ l, T x = some (R x) ∧ (R x).1.size ≤ M) → acc.length + M * l.length ≤ 140737488355328 →
  jm T l acc = some (qC R l (strOfNums acc)) := by
 induction l with
 | nil => intro acc _ _; rfl
 | cons x l ih =>
  intro acc h hb
  obtain ⟨h1, h2⟩ := h x List.mem_cons_self
  rw [List.length_cons, Nat.mul_succ] at hb
  rw [jm, zD h1, qC]
  by_cases he : (R x).2 = 0
  ·rw [if_pos he, if_pos he, if_pos (by omega), ih _ (fun y hy => h y (List.mem_cons_of_mem _ hy)) (by rw [zdM, yj]; omega), Zx, yU]
  ·rw [if_neg he, if_neg he]
def yS (l : List Int) : ByteArray × Int := if 256 < l.length then (⟨#[]⟩, 4) else qC (fun n => (zW n, 0)) l (zW (l.length : Int))
def jt (l : List ByteArray) : ByteArray × Int := if 256 < l.length then (⟨#[]⟩, 4) else qC qB l (zW (l.length : Int))
theorem YU {n : Int} (h : (Lit.int .i64 n).wf = true) : -9223372036854775808 ≤ n ∧ n ≤ 9223372036854775807 := by
 have m1 : IntKind.i64.min = -9223372036854775808 := rfl
 have m2 : IntKind.i64.max = 9223372036854775807 := rfl
 simp only [Lit.wf, Bool.and_eq_true, decide_eq_true_eq] at h
 omega
theorem JR (l : List Int) (h : ∀ n ∈ l, (Lit.int .i64 n).wf = true) : xr.f l = some (yS l) := by
 unfold xr.f yS
 by_cases hl : 256 < l.length
 ·rw [if_pos hl, if_pos hl]
 ·have := zN (l.length : Int)
  rw [if_neg hl, if_neg hl, zD (qZ _ (by omega) (by omega)), Ql _ (fun n => (zW n, (0 : Int))) 10 (by omega) l _ (fun n hn => ?_) (by rw [yj]; omega), yU]
  have hb := YU (h n hn)
  exact ⟨by simp only [qZ n hb.1 hb.2, Option.map_some], zN n⟩
theorem VT (l : List ByteArray) (h : ∀ s ∈ l, s.size ≤ 140737488351232) : qh.f l = some (jt l) := by
 unfold qh.f jt
 by_cases hl : 256 < l.length
 ·rw [if_pos hl, if_pos hl]
 ·have := zN (l.length : Int)
  rw [if_neg hl, if_neg hl, zD (qZ _ (by omega) (by omega)), Ql _ qB 4106 (by omega) l _ (fun s hs => ⟨Y0 s (h s hs), jk s⟩) (by rw [yj]; omega), yU]
def zZ.f (a0 : Int) (a1 : Int) (a2 : Int) : Option (Bool) := if a0 ≥ a1 then (some (decide (a0 ≤ a2))) else (some false)
theorem zZ.calls (a0 : Int) (a1 : Int) (a2 : Int) (r : Bool) (w : World) (h : zZ.f a0 a1 a2 = some r) :
  Calls Tryz.prog 170 #[.int .i64 a0, .int .i64 a1, .int .i64 a2] w fun e w' => e = .returned (.bool r) ∧ zj w w' := by
 have H : (if a0 ≥ a1 then (some (decide (a0 ≤ a2))) else (some false)) = some r := h
 clear h
 by_cases c4 : a0 ≥ a1
 ·rw [if_pos c4] at H
  have c4b0 : decide (a1 ≤ a0) = true := decide_eq_true c4
  clear c4
  obtain rfl := Option.some.inj H
  go_enter Tryz.func170, Tryz.ntmps170
  go_wp2
  go_ret
  exact ⟨by first | rfl | (simp; done) | (simp [*]; done), by repeat (first | exact zj.refl _ | apply zj.step)⟩
 ·rw [if_neg c4] at H
  have c4b0 : decide (a1 ≤ a0) = false := decide_eq_false c4
  clear c4
  obtain rfl := Option.some.inj H
  go_enter Tryz.func170, Tryz.ntmps170
  go_wp2
  go_ret
  exact ⟨by first | rfl | (simp; done) | (simp [*]; done), by repeat (first | exact zj.refl _ | apply zj.step)⟩
def jP.f (k : Nat) (a0 : Int) (a1 : Int) (a2 : ByteArray) : Option (Bool) := (zZ.f a0 0 5).bind fun t316 => (if t316 = true then ((zZ.f a1 1 1099511627776).bind fun t317 => (if t317 = true then ((yB.f k a2).bind fun t318 => (some t318)) else (some false))) else (some false))
theorem jP.calls (k : Nat) (a0 : Int) (a1 : Int) (a2 : ByteArray) (r : Bool) (w : World) (h : jP.f k a0 a1 a2 = some r) :
  Calls Tryz.prog 169 #[.int .i64 a0, .int .i64 a1, .string a2] w fun e w' => e = .returned (.bool r) ∧ Below w.heap.size w w' := by
 have HB := za.mk (Below.refl w.heap.size w)
 have H : ((zZ.f a0 0 5).bind fun t316 => (if t316 = true then ((zZ.f a1 1 1099511627776).bind fun t317 => (if t317 = true then ((yB.f k a2).bind fun t318 => (some t318)) else (some false))) else (some false))) = some r := h
 clear h
 replace H := zdJ.mp H
 obtain ⟨t316, A40, H⟩ := H
 replace H : (if t316 = true then ((zZ.f a1 1 1099511627776).bind fun t317 => (if t317 = true then ((yB.f k a2).bind fun t318 => (some t318)) else (some false))) else (some false)) = some r := H
 have A4 := za.mk A40
 clear A40
 by_cases c5 : t316 = true
 ·subst c5
  have H1 : ((zZ.f a1 1 1099511627776).bind fun t317 => (if t317 = true then ((yB.f k a2).bind fun t318 => (some t318)) else (some false))) = some r := by rw [if_pos rfl] at H; exact H
  clear H
  have H := H1
  clear H1
  replace H := zdJ.mp H
  obtain ⟨t317, A60, H⟩ := H
  replace H : (if t317 = true then ((yB.f k a2).bind fun t318 => (some t318)) else (some false)) = some r := H
  have A6 := za.mk A60
  clear A60
  by_cases c7 : t317 = true
  ·subst c7
   have H1 : ((yB.f k a2).bind fun t318 => (some t318)) = some r := by rw [if_pos rfl] at H; exact H
   clear H
   have H := H1
   clear H1
   replace H := zdJ.mp H
   obtain ⟨t318, A80, H⟩ := H
   replace H : (some t318) = some r := H
   have A8 := za.mk A80
   clear A80
   obtain rfl := Option.some.inj H
   go_enter Tryz.func169, Tryz.ntmps169
   go_wp2_with (first | ((with_reducible refine zy (f := 170) rfl ?_); refine zU (some 8) rfl rfl Tryz.func170 (by kernel_rfl) rfl #[.int .i64 a0, .int .i64 0, .int .i64 5] rfl (by (try simp only [zdI, List.map_cons, List.map_nil]); first | done | rfl | (simp only [List.length_drop, List.length_take]; rfl)) ?_; (with_reducible refine (zZ.calls a0 0 5 true _ A4.out).mono ?_); rintro e w' ⟨rfl, ⟨nd, rfl⟩⟩; refine ⟨_, rfl, ?_⟩) | (go_at_call 170; (with_reducible refine (zZ.calls a1 1 1099511627776 true _ A6.out).mono ?_); rintro e w' ⟨rfl, ⟨nd, rfl⟩⟩) | (go_at_call 166; (with_reducible refine (yB.calls k a2 t318 _ A8.out).mono ?_); rintro e w9 ⟨rfl, hb⟩; have n0_ := za.mk (zp (by repeat (first | (with_reducible first | exact HB.out | apply zc | apply zb | apply zd) | exact HB.out)) hb); clear HB; have HB := n0_; clear n0_; (try clear hb); (try clear hb2); (try clear hk); (try clear hi)))
   go_ret
   exact ⟨by first | rfl | (simp [zn, zo] <;> rfl) | (simp [*, zn, zo] <;> rfl), by repeat (first | (with_reducible first | exact HB.out | apply zc | apply zb | apply zd) | exact HB.out)⟩
  ·replace c7 := zdL.mpr c7
   subst c7
   have H1 : (some false) = some r := by rw [if_neg (show ¬ (false = true) by decide)] at H; exact H
   clear H
   have H := H1
   clear H1
   obtain rfl := Option.some.inj H
   go_enter Tryz.func169, Tryz.ntmps169
   go_wp2_with (first | ((with_reducible refine zy (f := 170) rfl ?_); refine zU (some 8) rfl rfl Tryz.func170 (by kernel_rfl) rfl #[.int .i64 a0, .int .i64 0, .int .i64 5] rfl (by (try simp only [zdI, List.map_cons, List.map_nil]); first | done | rfl | (simp only [List.length_drop, List.length_take]; rfl)) ?_; (with_reducible refine (zZ.calls a0 0 5 true _ A4.out).mono ?_); rintro e w' ⟨rfl, ⟨nd, rfl⟩⟩; refine ⟨_, rfl, ?_⟩) | (go_at_call 170; (with_reducible refine (zZ.calls a1 1 1099511627776 false _ A6.out).mono ?_); rintro e w' ⟨rfl, ⟨nd, rfl⟩⟩))
   go_ret
   exact ⟨by first | rfl | (simp [zn, zo] <;> rfl) | (simp [*, zn, zo] <;> rfl), by repeat (first | (with_reducible first | exact HB.out | apply zc | apply zb | apply zd) | exact HB.out)⟩
 ·replace c5 := zdL.mpr c5
  subst c5
  have H1 : (some false) = some r := by rw [if_neg (show ¬ (false = true) by decide)] at H; exact H
  clear H
  have H := H1
  clear H1
  obtain rfl := Option.some.inj H
  go_enter Tryz.func169, Tryz.ntmps169
  go_wp2_with (first | ((with_reducible refine zy (f := 170) rfl ?_); refine zU (some 8) rfl rfl Tryz.func170 (by kernel_rfl) rfl #[.int .i64 a0, .int .i64 0, .int .i64 5] rfl (by (try simp only [zdI, List.map_cons, List.map_nil]); first | done | rfl | (simp only [List.length_drop, List.length_take]; rfl)) ?_; (with_reducible refine (zZ.calls a0 0 5 false _ A4.out).mono ?_); rintro e w' ⟨rfl, ⟨nd, rfl⟩⟩; refine ⟨_, rfl, ?_⟩))
  go_ret
  exact ⟨by first | rfl | (simp [zn, zo] <;> rfl) | (simp [*, zn, zo] <;> rfl), by repeat (first | (with_reducible first | exact HB.out | apply zc | apply zb | apply zd) | exact HB.out)⟩
def zO.l0 : Nat → List Int → Int → List Int → Int → Int → Option (Bool)
 | 0, _, _, _, _, _ => none
 | k + 1, x0, x1, x7, x8, x9 => if x9 < x8 then (if 0 ≤ x9 then (if x9 < (x7.length : Int) then ((zZ.f (rd x7 x9) (-1099511627776) 1099511627776).bind fun t320 => (if t320 = true then (zO.l0 k x0 x1 x7 x8 (wrap64 (x9 + 1))) else (some false))) else (none)) else (none)) else (some (decide ((x0.length : Int) ≤ x1)))
def zO.f (k : Nat) (l0 : List Int) (a1 : Int) : Option (Bool) := zO.l0 k l0 a1 l0 (l0.length : Int) 0
theorem zO.mono_l : ∀ k, (∀ y0 y1 y2 y3 y4, LeO (zO.l0 k y0 y1 y2 y3 y4) (zO.l0 (k + 1) y0 y1 y2 y3 y4))
 | 0 => fun _ _ _ _ _ r h => by simp [zO.l0] at h
 | k + 1 => by
  have ih0 := zO.mono_l k
  ·intro y0 y1 y2 y3 y4
   unfold zO.l0
   repeat' first
   | (with_reducible exact ih0 _ _ _ _ _)
   | (with_reducible exact LeO.refl _)
   | (with_reducible exact LeO.none _)
   | (with_reducible refine LeO.ite ?_ ?_)
   | (with_reducible refine LeO.bind ?_ (fun _ => ?_))
   | exact ih0 _ _ _ _ _
   | exact LeO.none _
   | refine LeO.ite ?_ ?_
   | refine LeO.bind ?_ (fun _ => ?_)
theorem zO.mono : ∀ a0 a1 k, LeO (zO.f k a0 a1) (zO.f (k + 1) a0 a1) := by
 intro a0 a1 k
 have ih0 := zO.mono_l k
 unfold zO.f
 repeat' first
   | (with_reducible exact ih0 _ _ _ _ _)
   | (with_reducible exact LeO.refl _)
   | (with_reducible exact LeO.none _)
   | (with_reducible refine LeO.ite ?_ ?_)
   | (with_reducible refine LeO.bind ?_ (fun _ => ?_))
   | exact ih0 _ _ _ _ _
   | exact LeO.none _
   | refine LeO.ite ?_ ?_
   | refine LeO.bind ?_ (fun _ => ?_)
theorem zO.calls (k : Nat) (A0 : Option Addr) (c0 : Nat) (l0 : List Int) (a1 : Int) (r : Bool) (w : World) (hr0 : Kd.C (Kd.int .i64) w A0 l0.length l0) (hc0 : l0.length ≤ c0) (h : zO.f k l0 a1 = some r) :
  Calls Tryz.prog 171 #[.slice A0 l0.length c0, .int .i64 a1] w fun e w' => e = .returned (.bool r) ∧ zj w w' := by
 have HR0 := za.mk hr0
 have HC0 := za.mk hc0
 clear hr0 hc0
 have H : (zO.l0 k l0 a1 l0 (l0.length : Int) 0) = some r := h
 clear h
 have H' := za.mk H
 clear H
 go_enter Tryz.func171, Tryz.ntmps171
 go_wp2
 go_loopg [9] k (fun kq v9 w' => ∃ (x9_1 : Int), v9 = .int .i64 x9_1 ∧ za (zO.l0 kq l0 a1 l0 (l0.length : Int) x9_1 = some r) ∧ za (kq ≤ k) ∧ zj w w')
 case atStart => exact ⟨(0), (by first | rfl | (simp; done) | (simp [*]; done)), H', ⟨Nat.le_refl _⟩, by repeat (first | exact zj.refl _ | apply zj.step)⟩
 case round =>
  clear H'
  try clear c1
  try clear p2
  obtain ⟨x9_1, rfl, HA, HK1, ⟨m1, rfl⟩⟩ := hrel
  cases gk with
  | zero => exact absurd HA.out (by simp [zO.l0])
  | succ k1 =>
   have H := HA.out
   clear HA
   simp only [zO.l0] at H
   by_cases c3 : x9_1 < (l0.length : Int)
   ·rw [if_pos c3] at H
    have c3b0 : decide (x9_1 < (l0.length : Int)) = true := decide_eq_true c3
    clear c3
    by_cases c4 : 0 ≤ x9_1
    ·rw [if_pos c4] at H
     have c4b0 : decide (0 ≤ x9_1) = true := decide_eq_true c4
     clear c4
     by_cases c5 : x9_1 < (l0.length : Int)
     ·rw [if_pos c5] at H
      have c5b0 : decide (x9_1 < (l0.length : Int)) = true := decide_eq_true c5
      clear c5
      replace H := zdJ.mp H
      obtain ⟨t320, A60, H⟩ := H
      replace H : (if t320 = true then (zO.l0 k1 l0 a1 l0 (l0.length : Int) (wrap64 (x9_1 + 1))) else (some false)) = some r := H
      have A6 := za.mk A60
      clear A60
      by_cases c7 : t320 = true
      ·subst c7
       have H1 : (zO.l0 k1 l0 a1 l0 (l0.length : Int) (wrap64 (x9_1 + 1))) = some r := by rw [if_pos rfl] at H; exact H
       clear H
       have H := H1
       clear H1
       have H' := za.mk H
       clear H
       have p319 : 0 ≤ (x9_1 : Int) := of_decide_eq_true (by first | (with_reducible assumption) | assumption)
       have q319 : x9_1 < (l0.length : Int) := of_decide_eq_true (by first | (with_reducible assumption) | assumption)
       obtain ⟨ad319, e319, hx319_0⟩ := Kd.at_int HR0.out x9_1 p319 q319
       cases e319
       replace p319 := eq_true p319
       replace q319 := eq_true q319
       go_wp2_with (first | ((with_reducible refine zy (f := 170) rfl ?_); refine zU (some 14) rfl rfl Tryz.func170 (by kernel_rfl) rfl #[.int .i64 (rd l0 x9_1), .int .i64 (-1099511627776), .int .i64 1099511627776] rfl (by (try simp only [zdI, List.map_cons, List.map_nil]); first | done | rfl | (simp only [List.length_drop, List.length_take]; rfl)) ?_; (with_reducible refine (zZ.calls (rd l0 x9_1) (-1099511627776) 1099511627776 true _ A6.out).mono ?_); rintro e w' ⟨rfl, ⟨nd, rfl⟩⟩; refine ⟨_, rfl, ?_⟩))
       go_roundg k1
       case measure => have := HK1.out; omega
       case rel => exact ⟨(wrap64 (x9_1 + 1)), (by first | rfl | (simp; done) | (simp [*]; done)), H', ⟨by have := HK1.out; omega⟩, by repeat (first | exact zj.refl _ | apply zj.step)⟩
      ·replace c7 := zdL.mpr c7
       subst c7
       have H1 : (some false) = some r := by rw [if_neg (show ¬ (false = true) by decide)] at H; exact H
       clear H
       have H := H1
       clear H1
       obtain rfl := Option.some.inj H
       have p319 : 0 ≤ (x9_1 : Int) := of_decide_eq_true (by first | (with_reducible assumption) | assumption)
       have q319 : x9_1 < (l0.length : Int) := of_decide_eq_true (by first | (with_reducible assumption) | assumption)
       obtain ⟨ad319, e319, hx319_0⟩ := Kd.at_int HR0.out x9_1 p319 q319
       cases e319
       replace p319 := eq_true p319
       replace q319 := eq_true q319
       go_wp2_with (first | ((with_reducible refine zy (f := 170) rfl ?_); refine zU (some 14) rfl rfl Tryz.func170 (by kernel_rfl) rfl #[.int .i64 (rd l0 x9_1), .int .i64 (-1099511627776), .int .i64 1099511627776] rfl (by (try simp only [zdI, List.map_cons, List.map_nil]); first | done | rfl | (simp only [List.length_drop, List.length_take]; rfl)) ?_; (with_reducible refine (zZ.calls (rd l0 x9_1) (-1099511627776) 1099511627776 false _ A6.out).mono ?_); rintro e w' ⟨rfl, ⟨nd, rfl⟩⟩; refine ⟨_, rfl, ?_⟩))
       go_ret
       exact ⟨by first | rfl | (simp; done) | (simp [*]; done), by repeat (first | exact zj.refl _ | apply zj.step)⟩
     ·rw [if_neg c5] at H
      exact absurd H (by simp)
    ·rw [if_neg c4] at H
     exact absurd H (by simp)
   ·rw [if_neg c3] at H
    have c3b0 : decide (x9_1 < (l0.length : Int)) = false := decide_eq_false c3
    clear c3
    obtain rfl := Option.some.inj H
    go_wp2
    go_ret
    exact ⟨by first | rfl | (simp; done) | (simp [*]; done), by repeat (first | exact zj.refl _ | apply zj.step)⟩
def yq.f (k : Nat) (a0_0 : Int) (l0_1 : List Int) : Option (Bool) := (zZ.f a0_0 0 7).bind fun t322 => (if t322 = true then ((zO.f k l0_1 6).bind fun t323 => (some t323)) else (some false))
theorem yq.mono : ∀ a0 a1 k, LeO (yq.f k a0 a1) (yq.f (k + 1) a0 a1) := by
 intro a0 a1 k
 unfold yq.f
 repeat' first
   | (with_reducible exact zO.mono _ _ _)
   | (with_reducible exact LeO.refl _)
   | (with_reducible exact LeO.none _)
   | (with_reducible refine LeO.ite ?_ ?_)
   | (with_reducible refine LeO.bind ?_ (fun _ => ?_))
   | exact zO.mono _ _ _
   | exact LeO.none _
   | refine LeO.ite ?_ ?_
   | refine LeO.bind ?_ (fun _ => ?_)
theorem yq.calls (k : Nat) (a0_0 : Int) (A0_1 : Option Addr) (c0_1 : Nat) (l0_1 : List Int) (r : Bool) (w : World) (hr0_1 : Kd.C (Kd.int .i64) w A0_1 l0_1.length l0_1) (hc0_1 : l0_1.length ≤ c0_1) (h : yq.f k a0_0 l0_1 = some r) :
  Calls Tryz.prog 172 #[.agg #[.int .i64 a0_0, .slice A0_1 l0_1.length c0_1]] w fun e w' => e = .returned (.bool r) ∧ Below w.heap.size w w' := by
 have hu108 := Tryz.underlying108
 have HR0_1 := za.mk hr0_1
 have HC0_1 := za.mk hc0_1
 clear hr0_1 hc0_1
 have HB := za.mk (Below.refl w.heap.size w)
 have H : ((zZ.f a0_0 0 7).bind fun t322 => (if t322 = true then ((zO.f k l0_1 6).bind fun t323 => (some t323)) else (some false))) = some r := h
 clear h
 replace H := zdJ.mp H
 obtain ⟨t322, A20, H⟩ := H
 replace H : (if t322 = true then ((zO.f k l0_1 6).bind fun t323 => (some t323)) else (some false)) = some r := H
 have A2 := za.mk A20
 clear A20
 by_cases c3 : t322 = true
 ·subst c3
  have H1 : ((zO.f k l0_1 6).bind fun t323 => (some t323)) = some r := by rw [if_pos rfl] at H; exact H
  clear H
  have H := H1
  clear H1
  replace H := zdJ.mp H
  obtain ⟨t323, A40, H⟩ := H
  replace H : (some t323) = some r := H
  have A4 := za.mk A40
  clear A40
  obtain rfl := Option.some.inj H
  go_enter Tryz.func172, Tryz.ntmps172
  go_wp2_with (first | ((with_reducible refine zJ (N := 1) rfl ?_); refine yg ?hg (N := 1) ?hd (cs := #[.int .i64 a0_0, .slice A0_1 l0_1.length c0_1]) (t := 108) ?hr ?_; (case hd => rfl); (case hg => rfl); (case hr => first | (go_simp; done) | (go_simp; rfl)); intro gb321 hg w5 hbox hb; have n0_ := za.mk (zp (by repeat (first | (with_reducible first | exact HB.out | apply zc | apply zb | apply zd) | exact HB.out)) hb); have n1_ := za.mk (hbox); have n2_ := za.mk ((by rw [hg]; exact (zG (by repeat (first | (with_reducible first | exact HB.out | apply zc | apply zb | apply zd) | exact HB.out))) : w.heap.size ≤ gb321)); have n3_ := za.mk ((by rw [hg]; exact (zG (by repeat (first | (with_reducible first | exact HB.out | apply zc | apply zb | apply zd) | exact HB.out))) : w.heap.size ≤ gb321)); clear HB; have HB := n0_; have BK321 := n1_; have GW321 := n2_; have GE321 := n3_; clear n0_ n1_ n2_ n3_; clear hb hbox hg; have hcz6_0 : w5.cell? ⟨gb321, 0, none⟩ = some (.int .i64 a0_0) := (zk BK321.out 0).trans rfl; have hcz6_1 : w5.cell? ⟨gb321, 1, none⟩ = some (.slice A0_1 l0_1.length c0_1) := (zk BK321.out 1).trans rfl; have hfz6_0 := zl BK321.out 0; have hfz6_1 := zl BK321.out 1) | ((with_reducible refine zy (f := 170) rfl ?_); refine zU (some 5) rfl rfl Tryz.func170 (by kernel_rfl) rfl #[.int .i64 a0_0, .int .i64 0, .int .i64 7] rfl (by (try simp only [zdI, List.map_cons, List.map_nil]); first | done | rfl | (simp only [List.length_drop, List.length_take]; rfl)) ?_; (with_reducible refine (zZ.calls a0_0 0 7 true _ A2.out).mono ?_); rintro e w' ⟨rfl, ⟨nd, rfl⟩⟩; refine ⟨_, rfl, ?_⟩) | (go_at_call 171; (with_reducible refine (zO.calls k _ _ l0_1 6 t323 _ ?side1 ?side2 A4.out).mono ?_); (case side1 => repeat (first | exact (Kd.C_below HR0_1.out (by repeat (first | (with_reducible first | exact HB.out | apply zc | apply zb | apply zd | refine zq ?_ GE321.out) | exact HB.out))) | (with_reducible refine Kd.C_alloc ?_ _) | (with_reducible refine Kd.C_drewN ?_ _) | (with_reducible refine Kd.C_drew ?_))); (case side2 => exact HC0_1.out); rintro e w' ⟨rfl, ⟨nd, rfl⟩⟩))
  go_ret
  exact ⟨by first | rfl | (simp [zn, zo] <;> rfl) | (simp [*, zn, zo] <;> rfl), by repeat (first | (with_reducible first | exact HB.out | apply zc | apply zb | apply zd | refine zq ?_ GE321.out) | exact HB.out)⟩
 ·replace c3 := zdL.mpr c3
  subst c3
  have H1 : (some false) = some r := by rw [if_neg (show ¬ (false = true) by decide)] at H; exact H
  clear H
  have H := H1
  clear H1
  obtain rfl := Option.some.inj H
  go_enter Tryz.func172, Tryz.ntmps172
  go_wp2_with (first | ((with_reducible refine zJ (N := 1) rfl ?_); refine yg ?hg (N := 1) ?hd (cs := #[.int .i64 a0_0, .slice A0_1 l0_1.length c0_1]) (t := 108) ?hr ?_; (case hd => rfl); (case hg => rfl); (case hr => first | (go_simp; done) | (go_simp; rfl)); intro gb321 hg w7 hbox hb; have n0_ := za.mk (zp (by repeat (first | (with_reducible first | exact HB.out | apply zc | apply zb | apply zd) | exact HB.out)) hb); have n1_ := za.mk (hbox); have n2_ := za.mk ((by rw [hg]; exact (zG (by repeat (first | (with_reducible first | exact HB.out | apply zc | apply zb | apply zd) | exact HB.out))) : w.heap.size ≤ gb321)); have n3_ := za.mk ((by rw [hg]; exact (zG (by repeat (first | (with_reducible first | exact HB.out | apply zc | apply zb | apply zd) | exact HB.out))) : w.heap.size ≤ gb321)); clear HB; have HB := n0_; have BK321 := n1_; have GW321 := n2_; have GE321 := n3_; clear n0_ n1_ n2_ n3_; clear hb hbox hg; have hcz8_0 : w7.cell? ⟨gb321, 0, none⟩ = some (.int .i64 a0_0) := (zk BK321.out 0).trans rfl; have hcz8_1 : w7.cell? ⟨gb321, 1, none⟩ = some (.slice A0_1 l0_1.length c0_1) := (zk BK321.out 1).trans rfl; have hfz8_0 := zl BK321.out 0; have hfz8_1 := zl BK321.out 1) | ((with_reducible refine zy (f := 170) rfl ?_); refine zU (some 5) rfl rfl Tryz.func170 (by kernel_rfl) rfl #[.int .i64 a0_0, .int .i64 0, .int .i64 7] rfl (by (try simp only [zdI, List.map_cons, List.map_nil]); first | done | rfl | (simp only [List.length_drop, List.length_take]; rfl)) ?_; (with_reducible refine (zZ.calls a0_0 0 7 false _ A2.out).mono ?_); rintro e w' ⟨rfl, ⟨nd, rfl⟩⟩; refine ⟨_, rfl, ?_⟩))
  go_ret
  exact ⟨by first | rfl | (simp [zn, zo] <;> rfl) | (simp [*, zn, zo] <;> rfl), by repeat (first | (with_reducible first | exact HB.out | apply zc | apply zb | apply zd | refine zq ?_ GE321.out) | exact HB.out)⟩
def js.f (k : Nat) (a0_0 : Int) (a0_1 : Int) (l0_2 : List Int) : Option (Bool) := (yq.f k a0_0 l0_2).bind fun t344 => (if t344 = true then ((zZ.f a0_1 0 1099511627776).bind fun t345 => (some t345)) else (some false))
theorem js.calls (k : Nat) (a0_0 : Int) (a0_1 : Int) (A0_2 : Option Addr) (c0_2 : Nat) (l0_2 : List Int) (r : Bool) (w : World) (hr0_2 : Kd.C (Kd.int .i64) w A0_2 l0_2.length l0_2) (hc0_2 : l0_2.length ≤ c0_2) (h : js.f k a0_0 a0_1 l0_2 = some r) :
  Calls Tryz.prog 173 #[.agg #[.int .i64 a0_0, .int .i64 a0_1, .slice A0_2 l0_2.length c0_2]] w fun e w' => e = .returned (.bool r) ∧ Below w.heap.size w w' := by
 have hu84 := Tryz.underlying84
 have hu108 := Tryz.underlying108
 have HR0_2 := za.mk hr0_2
 have HC0_2 := za.mk hc0_2
 clear hr0_2 hc0_2
 have HB := za.mk (Below.refl w.heap.size w)
 have H : ((yq.f k a0_0 l0_2).bind fun t344 => (if t344 = true then ((zZ.f a0_1 0 1099511627776).bind fun t345 => (some t345)) else (some false))) = some r := h
 clear h
 replace H := zdJ.mp H
 obtain ⟨t344, A20, H⟩ := H
 replace H : (if t344 = true then ((zZ.f a0_1 0 1099511627776).bind fun t345 => (some t345)) else (some false)) = some r := H
 have A2 := za.mk A20
 clear A20
 by_cases c3 : t344 = true
 ·subst c3
  have H1 : ((zZ.f a0_1 0 1099511627776).bind fun t345 => (some t345)) = some r := by rw [if_pos rfl] at H; exact H
  clear H
  have H := H1
  clear H1
  replace H := zdJ.mp H
  obtain ⟨t345, A40, H⟩ := H
  replace H : (some t345) = some r := H
  have A4 := za.mk A40
  clear A40
  obtain rfl := Option.some.inj H
  go_enter Tryz.func173, Tryz.ntmps173
  go_wp2_with (first | ((with_reducible refine zJ (N := 1) rfl ?_); refine yg ?hg (N := 1) ?hd (cs := #[.int .i64 a0_0, .int .i64 a0_1, .slice A0_2 l0_2.length c0_2]) (t := 84) ?hr ?_; (case hd => rfl); (case hg => rfl); (case hr => first | (go_simp; done) | (go_simp; rfl)); intro gb343 hg w5 hbox hb; have n0_ := za.mk (zp (by repeat (first | (with_reducible first | exact HB.out | apply zc | apply zb | apply zd) | exact HB.out)) hb); have n1_ := za.mk (hbox); have n2_ := za.mk ((by rw [hg]; exact (zG (by repeat (first | (with_reducible first | exact HB.out | apply zc | apply zb | apply zd) | exact HB.out))) : w.heap.size ≤ gb343)); have n3_ := za.mk ((by rw [hg]; exact (zG (by repeat (first | (with_reducible first | exact HB.out | apply zc | apply zb | apply zd) | exact HB.out))) : w.heap.size ≤ gb343)); clear HB; have HB := n0_; have BK343 := n1_; have GW343 := n2_; have GE343 := n3_; clear n0_ n1_ n2_ n3_; clear hb hbox hg; have hcz6_0 : w5.cell? ⟨gb343, 0, none⟩ = some (.int .i64 a0_0) := (zk BK343.out 0).trans rfl; have hcz6_1 : w5.cell? ⟨gb343, 1, none⟩ = some (.int .i64 a0_1) := (zk BK343.out 1).trans rfl; have hcz6_2 : w5.cell? ⟨gb343, 2, none⟩ = some (.slice A0_2 l0_2.length c0_2) := (zk BK343.out 2).trans rfl; have hfz6_0 := zl BK343.out 0; have hfz6_1 := zl BK343.out 1; have hfz6_2 := zl BK343.out 2) | ((with_reducible refine zy (f := 172) rfl ?_); refine zU (some 8) rfl rfl Tryz.func172 (by kernel_rfl) rfl #[.agg #[.int .i64 a0_0, .slice A0_2 l0_2.length c0_2]] rfl (by (try simp only [zdI, List.map_cons, List.map_nil]); first | done | rfl | (simp only [List.length_drop, List.length_take]; rfl)) ?_; (with_reducible refine (yq.calls k a0_0 _ _ l0_2 true _ ?side1 ?side2 A2.out).mono ?_); (case side1 => repeat (first | exact (Kd.C_below HR0_2.out HB.out) | (with_reducible refine Kd.C_alloc ?_ _) | (with_reducible refine Kd.C_drewN ?_ _) | (with_reducible refine Kd.C_drew ?_))); (case side2 => exact HC0_2.out); rintro e w7 ⟨rfl, hb⟩; refine ⟨_, rfl, ?_⟩; have n0_ := za.mk (zP (g := gb343) (o := .cells #[.int .i64 a0_0, .int .i64 a0_1, .slice A0_2 l0_2.length c0_2] 84 (0, 0)) (by (with_reducible repeat (first | refine zH ?_ _ | refine zM ?_ | refine zI ?_ _)); exact BK343.out) hb); have n1_ := za.mk (zp (by repeat (first | (with_reducible first | exact HB.out | apply zc | apply zb | apply zd | refine zq ?_ GE343.out) | exact HB.out)) hb); clear BK343; clear HB; have BK343 := n0_; have HB := n1_; clear n0_ n1_; (try clear hb); (try clear hb2); (try clear hk); (try clear hi); have hcz8_0 : w7.cell? ⟨gb343, 0, none⟩ = some (.int .i64 a0_0) := (zk BK343.out 0).trans rfl; have hcz8_1 : w7.cell? ⟨gb343, 1, none⟩ = some (.int .i64 a0_1) := (zk BK343.out 1).trans rfl; have hcz8_2 : w7.cell? ⟨gb343, 2, none⟩ = some (.slice A0_2 l0_2.length c0_2) := (zk BK343.out 2).trans rfl; have hfz8_0 := zl BK343.out 0; have hfz8_1 := zl BK343.out 1; have hfz8_2 := zl BK343.out 2) | (go_at_call 170; (with_reducible refine (zZ.calls a0_1 0 1099511627776 t345 _ A4.out).mono ?_); rintro e w' ⟨rfl, ⟨nd, rfl⟩⟩))
  go_ret
  exact ⟨by first | rfl | (simp [zn, zo] <;> rfl) | (simp [*, zn, zo] <;> rfl), by repeat (first | (with_reducible first | exact HB.out | apply zc | apply zb | apply zd | refine zq ?_ GE343.out) | exact HB.out)⟩
 ·replace c3 := zdL.mpr c3
  subst c3
  have H1 : (some false) = some r := by rw [if_neg (show ¬ (false = true) by decide)] at H; exact H
  clear H
  have H := H1
  clear H1
  obtain rfl := Option.some.inj H
  go_enter Tryz.func173, Tryz.ntmps173
  go_wp2_with (first | ((with_reducible refine zJ (N := 1) rfl ?_); refine yg ?hg (N := 1) ?hd (cs := #[.int .i64 a0_0, .int .i64 a0_1, .slice A0_2 l0_2.length c0_2]) (t := 84) ?hr ?_; (case hd => rfl); (case hg => rfl); (case hr => first | (go_simp; done) | (go_simp; rfl)); intro gb343 hg w9 hbox hb; have n0_ := za.mk (zp (by repeat (first | (with_reducible first | exact HB.out | apply zc | apply zb | apply zd) | exact HB.out)) hb); have n1_ := za.mk (hbox); have n2_ := za.mk ((by rw [hg]; exact (zG (by repeat (first | (with_reducible first | exact HB.out | apply zc | apply zb | apply zd) | exact HB.out))) : w.heap.size ≤ gb343)); have n3_ := za.mk ((by rw [hg]; exact (zG (by repeat (first | (with_reducible first | exact HB.out | apply zc | apply zb | apply zd) | exact HB.out))) : w.heap.size ≤ gb343)); clear HB; have HB := n0_; have BK343 := n1_; have GW343 := n2_; have GE343 := n3_; clear n0_ n1_ n2_ n3_; clear hb hbox hg; have hcz10_0 : w9.cell? ⟨gb343, 0, none⟩ = some (.int .i64 a0_0) := (zk BK343.out 0).trans rfl; have hcz10_1 : w9.cell? ⟨gb343, 1, none⟩ = some (.int .i64 a0_1) := (zk BK343.out 1).trans rfl; have hcz10_2 : w9.cell? ⟨gb343, 2, none⟩ = some (.slice A0_2 l0_2.length c0_2) := (zk BK343.out 2).trans rfl; have hfz10_0 := zl BK343.out 0; have hfz10_1 := zl BK343.out 1; have hfz10_2 := zl BK343.out 2) | ((with_reducible refine zy (f := 172) rfl ?_); refine zU (some 8) rfl rfl Tryz.func172 (by kernel_rfl) rfl #[.agg #[.int .i64 a0_0, .slice A0_2 l0_2.length c0_2]] rfl (by (try simp only [zdI, List.map_cons, List.map_nil]); first | done | rfl | (simp only [List.length_drop, List.length_take]; rfl)) ?_; (with_reducible refine (yq.calls k a0_0 _ _ l0_2 false _ ?side1 ?side2 A2.out).mono ?_); (case side1 => repeat (first | exact (Kd.C_below HR0_2.out HB.out) | (with_reducible refine Kd.C_alloc ?_ _) | (with_reducible refine Kd.C_drewN ?_ _) | (with_reducible refine Kd.C_drew ?_))); (case side2 => exact HC0_2.out); rintro e w11 ⟨rfl, hb⟩; refine ⟨_, rfl, ?_⟩; have n0_ := za.mk (zP (g := gb343) (o := .cells #[.int .i64 a0_0, .int .i64 a0_1, .slice A0_2 l0_2.length c0_2] 84 (0, 0)) (by (with_reducible repeat (first | refine zH ?_ _ | refine zM ?_ | refine zI ?_ _)); exact BK343.out) hb); have n1_ := za.mk (zp (by repeat (first | (with_reducible first | exact HB.out | apply zc | apply zb | apply zd | refine zq ?_ GE343.out) | exact HB.out)) hb); clear BK343; clear HB; have BK343 := n0_; have HB := n1_; clear n0_ n1_; (try clear hb); (try clear hb2); (try clear hk); (try clear hi)))
  go_ret
  exact ⟨by first | rfl | (simp [zn, zo] <;> rfl) | (simp [*, zn, zo] <;> rfl), by repeat (first | (with_reducible first | exact HB.out | apply zc | apply zb | apply zd | refine zq ?_ GE343.out) | exact HB.out)⟩
def wiB (n a b : Int) : Bool := decide (a ≤ n ∧ n ≤ b)
theorem qY (n a b : Int) : zZ.f n a b = some (wiB n a b) := by
 unfold zZ.f wiB
 by_cases h : n ≥ a
 ·rw [if_pos h]
  exact congrArg some (decide_eq_decide.mpr ⟨fun h2 => ⟨h, h2⟩, fun h2 => h2.2⟩)
 ·rw [if_neg h, decide_eq_false (fun h2 => h h2.1)]
def vB (n : Int) : Bool := wiB n (-1099511627776) 1099511627776
def xP {α : Type} (P : α → Bool) (R : α → α → Bool) : Option α → List α → Bool
 | _, [] => true
 | none, x :: l => P x && xP P R (some x) l
 | some p, x :: l => P x && (R p x && xP P R (some x) l)
def Zj {α : Type} (l : List α) (i : Nat) : Option α := if i = 0 then none else l[i - 1]?
theorem zaa {α : Type} (l : List α) (i : Nat) (h : i < l.length) : Zj l (i + 1) = some l[i] := by
 unfold Zj
 rw [if_neg (by omega), Nat.add_sub_cancel]
 exact List.getElem?_eq_getElem h
theorem zan {α : Type} (l : List α) (i : Nat) (h : 0 < i) (h2 : i < l.length) : Zj l i = some (l[i - 1]'(by omega)) := by
 unfold Zj
 rw [if_neg (by omega)]
 exact List.getElem?_eq_getElem _
theorem Yv {α : Type} (l : List α) : Zj l 0 = none := if_pos rfl
theorem zbk (l : List Int) (hl : l.length ≤ 9223372036854775807) (m : Int) (d : Nat) : ∀ (k i : Nat), i + d = l.length → d + 1 ≤ k → zO.l0 k l m l (l.length : Int) (i : Int) = some ((l.drop i).all vB && decide ((l.length : Int) ≤ m)) := by
 induction d with
 | zero =>
  intro k i hi hk
  obtain ⟨k, rfl⟩ : ∃ k', k = k' + 1 := ⟨k - 1, by omega⟩
  rw [zO.l0, if_neg (by omega), List.drop_eq_nil_of_le (by omega)]
  rfl
 | succ d ih =>
  intro k i hi hk
  obtain ⟨k, rfl⟩ : ∃ k', k = k' + 1 := ⟨k - 1, by omega⟩
  have hs := ih k (i + 1) (by omega) (by omega)
  rw [zO.l0, if_pos (by omega), if_pos (by omega), if_pos (by omega), Jk l i (by omega), zD (qY _ _ _), (List.drop_eq_getElem_cons (by omega) : l.drop i = l[i] :: l.drop (i + 1)), List.all_cons, z9 (by omega) (by omega)]
  show (if vB l[i] = true then _ else _) = _
  cases hb : vB l[i] with
  | true => rw [if_pos rfl, Bool.true_and]; exact hs
  | false => rw [if_neg (by decide), Bool.false_and, Bool.false_and]
def vo (l : List Int) (m : Int) : Bool := l.all vB && decide ((l.length : Int) ≤ m)
theorem XA (l : List Int) (hl : l.length ≤ 9223372036854775807) (m : Int) (k : Nat) (hk : l.length + 1 ≤ k) : zO.f k l m = some (vo l m) := by
 unfold zO.f vo
 exact zbk l hl m l.length k 0 (by omega) hk
def Yl (c s : Int) (st : ByteArray) : Bool := wiB c 0 5 && (wiB s 1 1099511627776 && qH st)
theorem zbb (c s : Int) (st : ByteArray) (k : Nat) (hk : 300 ≤ k) : jP.f k c s st = some (Yl c s st) := by
 unfold jP.f Yl
 rw [zD (qY _ _ _)]
 cases wiB c 0 5 with
 | false => rfl
 | true =>
  rw [if_pos rfl, zD (qY _ _ _), Bool.true_and]
  cases wiB s 1 1099511627776 with
  | false => rfl
  | true => rw [if_pos rfl, zD (XE st k hk), Bool.true_and]
def qU (c s : Int) (st : ByteArray) (r : Int) (l : List Int) (x : Int) : Bool := Yl c s st && (wiB r 0 11 && (vo l 4 && wiB x (-1) 1099511627776))
def evB (e : S108) : Bool := wiB e.f0 0 7 && vo e.f1 6
theorem Qf (a : Int) (l : List Int) (hl : l.length ≤ 9223372036854775807) (k : Nat) (hk : l.length + 1 ≤ k) : yq.f k a l = some (wiB a 0 7 && vo l 6) := by
 unfold yq.f
 rw [zD (qY _ _ _)]
 cases wiB a 0 7 with
 | false => rfl
 | true => rw [if_pos rfl, zD (XA l hl 6 k hk), Bool.true_and]
def Zd (l : List S108) : Bool := l.all evB && decide ((l.length : Int) ≤ 3)
def staB (s : S84) : Bool := wiB s.f0 0 7 && (vo s.f2 6 && wiB s.f1 0 1099511627776)
theorem VI (a v : Int) (l : List Int) (hl : l.length ≤ 9223372036854775807) (k : Nat) (hk : l.length + 1 ≤ k) : js.f k a v l = some (wiB a 0 7 && (vo l 6 && wiB v 0 1099511627776)) := by
 unfold js.f
 rw [zD (Qf a l hl k hk)]
 cases wiB a 0 7 with
 | false => rfl
 | true =>
  rw [Bool.true_and, Bool.true_and]
  cases vo l 6 with
  | false => rfl
  | true => rw [if_pos rfl, zD (qY _ _ _), Bool.true_and]
def itB (x : S86) : Bool := qH x.f0 && staB x.f1
def itR (p x : S86) : Bool := XV (bl p.f0) (bl x.f0)
def Qr (x : S77) : Bool := wiB x.f0 1 1099511627776 && wiB x.f1 0 63
def JN (p x : S77) : Bool := !decide (x.f0 ≤ p.f0)
theorem Qb {α : Type} (P : α → Bool) (R : α → α → Bool) (l : List α) (i : Nat) (h : i < l.length) (j : Nat) (hj : j = i - 1) (hjl : j < l.length) : xP P R (Zj l i) (l.drop i) = ((P l[i] && (!decide ((0 : Int) < (i : Int)) || R l[j] l[i])) && xP P R (Zj l (i + 1)) (l.drop (i + 1))) := by
 rw [List.drop_eq_getElem_cons h, zaa l i h]
 subst hj
 by_cases h0 : i = 0
 ·subst h0
  rw [Yv]
  simp [xP]
 ·rw [zan l i (by omega) h, xP, decide_eq_true (by omega : (0 : Int) < (i : Int)), Bool.and_assoc]
  rfl
theorem Q0 {α : Type} (P : α → Bool) (R : α → α → Bool) (l : List α) (i : Nat) (h : l.length ≤ i) (q : Option α) : xP P R q (l.drop i) = true := by
 rw [List.drop_eq_nil_of_le h]
 cases q <;> rfl
theorem xk {a b c : Int} {w : World} {t : Bool} (h : wiB a b c = t) : Calls Tryz.prog 170 #[.int .i64 a, .int .i64 b, .int .i64 c] w fun e w' => e = .returned (.bool t) ∧ Below w.heap.size w w' := jI (zZ.calls a b c t w (h ▸ qY a b c))
theorem JT {s : ByteArray} {w : World} {t : Bool} (h : qH s = t) : Calls Tryz.prog 166 #[.string s] w fun e w' => e = .returned (.bool t) ∧ Below w.heap.size w w' := yB.calls 300 s t w (h ▸ XE s 300 (Nat.le_refl _))
theorem zdm {s : S84} {A : Option Addr} {c : Nat} {w : World} {t : Bool} (hr : (Kd.int .i64).C w A s.f2.length s.f2) (hl : s.f2.length ≤ c) (h : staB s = t) : Calls Tryz.prog 173 #[.agg #[.int .i64 s.f0, .int .i64 s.f1, .slice A s.f2.length c]] w fun e w' => e = .returned (.bool t) ∧ Below w.heap.size w w' :=
 js.calls (s.f2.length + 1) _ _ _ _ _ _ _ hr hl (h ▸ VI _ _ _ hr.2.1 _ (Nat.le_refl _))
theorem zds {c q : Int} {s : ByteArray} {w : World} {t : Bool} (h : Yl c q s = t) : Calls Tryz.prog 169 #[.int .i64 c, .int .i64 q, .string s] w fun e w' => e = .returned (.bool t) ∧ Below w.heap.size w w' := jP.calls 300 _ _ _ _ _ (h ▸ zbb c q s 300 (Nat.le_refl _))
theorem zbQ {l : List Int} {m : Int} {A : Option Addr} {c : Nat} {w : World} {t : Bool} (hr : (Kd.int .i64).C w A l.length l) (hl : l.length ≤ c) (h : vo l m = t) : Calls Tryz.prog 171 #[.slice A l.length c, .int .i64 m] w fun e w' => e = .returned (.bool t) ∧ Below w.heap.size w w' :=
 jI (zO.calls (l.length + 1) _ _ _ _ _ _ hr hl (h ▸ XA _ hr.2.1 _ _ (Nat.le_refl _)))
def qr (l : List S86) : Bool := xP itB itR none l && decide ((l.length : Int) ≤ 64)
def qX.f (_k : Nat) (l : List S86) : Option Bool := some (qr l)
theorem Y2 {l : List S86} {A : Option Addr} {c : Nat} {w : World} (hr : k86.C w A l.length l) : Calls Tryz.prog 140 #[.slice A l.length c] w fun e w' => e = .returned (.bool (qr l)) ∧ Below w.heap.size w w' := by
 have HR := za.mk hr
 have HLEN := za.mk hr.2.1
 have HS := Sat.nil w
 unfold qr
 generalize hg : xP itB itR none l = g
 have HG := za.mk hg
 clear hr hg
 go_enter Tryz.func140, Tryz.ntmps140
 go_wp2
 have HZ := za.mk HS
 clear HS
 go_loopg [7] l.length (fun kq vi wr => ∃ i : Nat, vi = .int .i64 i ∧ za (i + kq = l.length) ∧ za (xP itB itR (Zj l i) (l.drop i) = g) ∧ za (Sat [] w wr [] []))
 case atStart => exact ⟨0, rfl, ⟨by simp⟩, ⟨by rw [Yv, List.drop_zero]; exact HG.out⟩, HZ⟩
 case round =>
  clear HZ HG
  obtain ⟨i, rfl, HK, HO, HT⟩ := hrel
  have HS := HT.out
  clear HT
  have hil : i ≤ l.length := by have := HK.out; omega
  by_cases hlt : i < l.length
  ·obtain ⟨ad, A3, c3, e0, x0, x1, x2, x3, hll, hin⟩ := vR HR.out (i : Int) (by omega) (by omega)
   subst e0
   have hd1 : xR l ((i : Nat) : Int) = l[i] := by simp [xR, hlt]
   obtain ⟨j, hj⟩ : ∃ j, j = i - 1 := ⟨_, rfl⟩
   have hjl : j < l.length := by omega
   obtain ⟨ad2, _, _, e2, p0, -⟩ := vR HR.out (j : Int) (by omega) (by omega)
   obtain rfl : ad = ad2 := by injection e2
   have hd2 : xR l ((j : Nat) : Int) = l[j] := by simp [xR, hjl]
   have ho := HO.out
   rw [Qb itB itR l i hlt j hj hjl] at ho
   rw [Int.toNat_natCast] at x0 x1 x2 x3 p0
   rw [hd1] at x0 x1 x2 x3 hll hin
   rw [hd2] at p0
   generalize l[i] = y at ho x0 x1 x2 x3 hll hin
   generalize l[j] = z at ho p0
   have b0 : (0 : Int) ≤ (i : Int) := by omega
   have b1 : (i : Int) < (l.length : Int) := by omega
   have b2 : (0 : Int) ≤ (j : Int) := by omega
   have b3 : (j : Int) < (l.length : Int) := by omega
   replace x0 := HS.at_ x0
   replace x1 := HS.at_ x1
   replace x2 := HS.at_ x2
   replace x3 := HS.at_ x3
   have j2 : 0 < i → wrap64 ((i : Int) - 1) = (j : Int) := fun h0 => by rw [xL (by omega) (by have := HLEN.out; omega)]; omega
   unfold itB itR at ho
   rw [← JA] at ho
   generalize hu : qH y.f0 = u at ho
   have HU := za.mk hu
   generalize hv : staB y.f1 = v at ho
   have HV := za.mk hv
   generalize hp : decide ((0 : Int) < (i : Int)) = p at ho
   generalize ht : Op.bytesLess z.f0.toList y.f0.toList = t at ho
   have HI := za.mk hin
   have HL := za.mk hll
   clear hin hll
   clear hd1 hd2 HO e2 hj hjl
   clear hu
   clear hv
   go_upto_region 4 with ((first | ((with_reducible refine gB rfl ?_); refine zC HS ?_) | ((with_reducible refine gA rfl ?_); refine zt HS ?_) | ((with_reducible refine gS rfl ?_); refine zr HS ?_)); clear HS; (try clear hc); intros; rename_i HS; have hc := HS.lk; simp only [Lk, LkC, Value.cells, List.toList_toArray, Nat.reduceAdd, Nat.zero_add, and_true, zf, zg, ze, zh] at HS hc)
   clear x0 x1 x2 x3
   obtain ⟨gx, rfl⟩ := HS.hd
   cases u
   case' true => cases v
   case' true.true => cases p
   case' true.true.true => cases t
   all_goals
    clear hc
    first
    | (have j4 := of_decide_eq_true hp; have j5 : decide (0 < i) = true := decide_eq_true (by omega); replace j2 := j2 (by omega); have j3 := (z6 _).trans j2)
    | (have j4 := of_decide_eq_false hp; have j5 : decide (0 < i) = false := decide_eq_false (by omega))
    | skip
    replace HS := HS.drewN 1
    refine qP (.op 0 0 12 (.op 1 0 13 (.op 2 2 14 (.op 3 1 15 (.op 4 1 16 (.op 5 0 17 (.op 6 0 18 (.op 7 2 19 (.op 8 1 20 (.op 9 1 21 (.op 10 1 22 (.op 11 1 23 (.op 12 1 24 (.op 13 1 25 (.op 14 0 26 (.op 15 0 27 (.op 16 1 28 (.op 17 1 29 (.op 18 1 30 (.op 19 1 31 (.op 20 1 32 (.op 21 0 33 (.op 22 1 34 (.op 23 1 35 (.op 24 1 36 .nil))))))))))))))))))))))))) [] (fun W => Lk W [(gx, [.string y.f0, .int .i64 y.f1.f0, .int .i64 y.f1.f1, .slice A3 y.f1.f2.length c3], 86)] ∧ W.cell? (ad.add (j * 4)) = some (.string z.f0)) ((fun _ H => ⟨H.lk, H.at_ p0⟩) _ HS) (fun hS => ?_)
    (repeat (first | refine RT.tk ?_ | refine RT.tn ?_ | refine RT.pu ?_ | refine RT.pn ?_ | refine RT.n2 ?_ | (refine RT.o1 ?_; refine ju HS (fun _ H => ⟨H.lk, H.at_ p0⟩) (JT HU.out) ?_; clear HS hS; intro w_ hS HS; refine RT.nm ?_) | (refine RT.o1 ?_; refine ju HS (fun _ H => ⟨H.lk, H.at_ p0⟩) (zdm (Kd.C_below HI.out HS.below) HL.out HV.out) ?_; clear HS hS; intro w_ hS HS; refine RT.nm ?_)))
    refine RT.nil ?_
    clear hS p0
    go_wp2
    first
    | (go_ret; exact ⟨by rw [← ho]; rfl, HS.below⟩)
    | (go_roundg (l.length - (i + 1)); (case measure => have := HK.out; omega); (case rel => exact ⟨i + 1, by have h_ : wrap64 ((i : Int) + 1) = ((i + 1 : Nat) : Int) := z9 (by omega) (by have := HLEN.out; omega); first | (rw [h_]) | (simp only [h_]) | rfl, ⟨by have := HK.out; omega⟩, ⟨ho⟩, ⟨HS.off (.cons _ (List.Sublist.refl _))⟩⟩))
  ·have ho := HO.out
   rw [Q0 _ _ _ _ (by omega)] at ho
   subst ho
   obtain rfl : i = l.length := by omega
   clear HO
   go_wp2
   go_ret
   exact ⟨rfl, HS.below⟩
theorem qX.calls (k : Nat) (A : Option Addr) (c : Nat) (l : List S86) (r : Bool) (w : World) (hr : k86.C w A l.length l) (_hl : l.length ≤ c) (h : qX.f k l = some r) : Calls Tryz.prog 140 #[.slice A l.length c] w fun e w' => e = .returned (.bool r) ∧ Below w.heap.size w w' := by
 injection h with h
 subst h
 exact Y2 hr
def yl.f (a0 : Bool) (l1 : List Int) : Option (ByteArray × Int) := if a0 = true then (some (strOfNums l1, 0)) else (some ((⟨#[]⟩ : ByteArray), 2))
theorem yl.calls (a0 : Bool) (A1 : Option Addr) (c1 : Nat) (l1 : List Int) (r1 : ByteArray) (r2 : Int) (w : World) (hr1 : Kd.C (Kd.int .u8) w A1 l1.length l1) (hc1 : l1.length ≤ c1) (h : yl.f a0 l1 = some (r1, r2)) :
  Calls Tryz.prog 132 #[.bool a0, .slice A1 l1.length c1] w fun e w' => e = .returned (.tuple #[.string r1, .int .i64 r2]) ∧ zj w w' := by
 have HR1 := za.mk hr1
 have HC1 := za.mk hc1
 clear hr1 hc1
 have H : (if a0 = true then (some (strOfNums l1, 0)) else (some ((⟨#[]⟩ : ByteArray), 2))) = some (r1, r2) := h
 clear h
 by_cases c3 : a0 = true
 ·subst c3
  have H1 : (some (strOfNums l1, 0)) = some (r1, r2) := by rw [if_pos rfl] at H; exact H
  clear H
  have H := H1
  clear H1
  simp only [Option.some.injEq, Prod.mk.injEq] at H
  obtain ⟨rfl, rfl⟩ := H
  have hcv4 := Kd.C_string (P := Tryz.prog) (A := A1) (c := c1) Tryz.underlying41 Tryz.underlying5 Tryz.underlying9 HR1.out
  go_enter Tryz.func132, Tryz.ntmps132
  go_wp2
  go_ret2
  exact ⟨by first | rfl | (simp; done) | (simp [*]; done), by repeat (first | exact zj.refl _ | apply zj.step)⟩
 ·replace c3 := zdL.mpr c3
  subst c3
  have H1 : (some ((⟨#[]⟩ : ByteArray), 2)) = some (r1, r2) := by rw [if_neg (show ¬ (false = true) by decide)] at H; exact H
  clear H
  have H := H1
  clear H1
  simp only [Option.some.injEq, Prod.mk.injEq] at H
  obtain ⟨rfl, rfl⟩ := H
  go_enter Tryz.func132, Tryz.ntmps132
  go_wp2
  go_ret2
  exact ⟨by first | rfl | (simp; done) | (simp [*]; done), by repeat (first | exact zj.refl _ | apply zj.step)⟩
def y8.f (k : Nat) (l0 : List (S86)) : Option (ByteArray × Int) := (qX.f k l0).bind fun t359 => ((yc.f k ([] : List Int) l0).bind fun t360 => ((yl.f t359 t360).bind fun bt363 => (some (bt363.1, bt363.2))))
theorem y8.calls (k : Nat) (A0 : Option Addr) (c0 : Nat) (l0 : List (S86)) (r1 : ByteArray) (r2 : Int) (w : World) (hr0 : Kd.C k86 w A0 l0.length l0) (hc0 : l0.length ≤ c0) (h : y8.f k l0 = some (r1, r2)) :
  Calls Tryz.prog 105 #[.slice A0 l0.length c0] w fun e w' => e = .returned (.tuple #[.string r1, .int .i64 r2]) ∧ Below w.heap.size w w' := by
 have HR0 := za.mk hr0
 have HC0 := za.mk hc0
 clear hr0 hc0
 have HB := za.mk (Below.refl w.heap.size w)
 have H : ((qX.f k l0).bind fun t359 => ((yc.f k ([] : List Int) l0).bind fun t360 => ((yl.f t359 t360).bind fun bt363 => (some (bt363.1, bt363.2))))) = some (r1, r2) := h
 clear h
 replace H := zdJ.mp H
 obtain ⟨t359, A20, H⟩ := H
 replace H : ((yc.f k ([] : List Int) l0).bind fun t360 => ((yl.f t359 t360).bind fun bt363 => (some (bt363.1, bt363.2)))) = some (r1, r2) := H
 have A2 := za.mk A20
 clear A20
 replace H := zdJ.mp H
 obtain ⟨t360, A30, H⟩ := H
 replace H : ((yl.f t359 t360).bind fun bt363 => (some (bt363.1, bt363.2))) = some (r1, r2) := H
 have A3 := za.mk A30
 clear A30
 replace H := zdJ.mp H
 obtain ⟨⟨t363, t364⟩, A40, H⟩ := H
 replace H : (some (t363, t364)) = some (r1, r2) := H
 have A4 := za.mk A40
 clear A40
 simp only [Option.some.injEq, Prod.mk.injEq] at H
 obtain ⟨rfl, rfl⟩ := H
 go_enter Tryz.func105, Tryz.ntmps105
 go_wp2_with (first | ((with_reducible refine zy (f := 140) rfl ?_); refine zU (some 5) rfl rfl Tryz.func140 (by kernel_rfl) rfl #[.slice A0 l0.length c0] rfl (by (try simp only [zdI, List.map_cons, List.map_nil]); first | done | rfl | (simp only [List.length_drop, List.length_take]; rfl)) ?_; (with_reducible refine (qX.calls k _ _ l0 t359 _ ?side1 ?side2 A2.out).mono ?_); (case side1 => repeat (first | exact HR0.out | (with_reducible refine Kd.C_alloc ?_ _) | (with_reducible refine Kd.C_drewN ?_ _) | (with_reducible refine Kd.C_drew ?_))); (case side2 => exact HC0.out); rintro e w5 ⟨rfl, hb⟩; refine ⟨_, rfl, ?_⟩; have n0_ := za.mk (zp (by repeat (first | (with_reducible first | exact HB.out | apply zc | apply zb | apply zd) | exact HB.out)) hb); clear HB; have HB := n0_; clear n0_; (try clear hb); (try clear hb2); (try clear hk); (try clear hi)) | ((with_reducible refine zy (f := 141) rfl ?_); refine zU (some 7) rfl rfl Tryz.func141 (by kernel_rfl) rfl #[.slice none 0 0, .slice A0 l0.length c0, .func (Fn.func 142) #[] #[]] rfl (by (try simp only [zdI, List.map_cons, List.map_nil]); first | done | rfl | (simp only [List.length_drop, List.length_take]; rfl)) ?_; (refine (yc.calls k (fun k_ => some k_ = (.slice none 0 0 : Value).ownBlock) (.slice none 0 0) ([] : List Int) _ _ l0 t360 w _ ?side1 ?side2 ?side3 ?side4 A3.out).mono ?_); (case side1 => repeat (first | (with_reducible first | exact HB.out | apply zc | apply zb | apply zd) | exact HB.out)); (case side2 => exact Kd.R_nil _ _ _ _ _); (case side3 => exact Kd.C_kept_came zbI HR0.out (by repeat (first | (with_reducible first | exact HB.out | apply zc | apply zb | apply zd) | exact HB.out)) (fun k_ hs_ => (fun e_ => by simp [Value.ownBlock] at e_) hs_)); (case side4 => exact HC0.out); rintro e w6 ⟨v361, rfl, ho0, hb, hkp⟩; refine ⟨_, rfl, ?_⟩; have n0_ := za.mk (Kd.R_mono (ok' := fun k_ => True) ho0 (fun k_ hk_ => trivial)); have n1_ := za.mk (hb); clear HB; have HO362 := n0_; have HB := n1_; clear n0_ n1_; (try clear hb); (try clear hkp); (try clear ho0); obtain ⟨Ao7, co7, eo7⟩ := Kd.R_slice HO362.out; subst eo7) | ((with_reducible refine zy (f := 132) rfl ?_); refine zU (some 8) rfl rfl Tryz.func132 (by kernel_rfl) rfl #[.bool t359, .slice Ao7 t360.length co7] rfl (by (try simp only [zdI, List.map_cons, List.map_nil]); first | done | rfl | (simp only [List.length_drop, List.length_take]; rfl)) ?_; (with_reducible refine (yl.calls t359 _ _ t360 t363 t364 _ ?side1 ?side2 A4.out).mono ?_); (case side1 => repeat (first | exact (Kd.R_reads' HO362.out).2.2 | (with_reducible refine Kd.C_alloc ?_ _) | (with_reducible refine Kd.C_drewN ?_ _) | (with_reducible refine Kd.C_drew ?_))); (case side2 => exact (Kd.R_reads' HO362.out).2.1); rintro e w' ⟨rfl, ⟨nd, rfl⟩⟩; refine ⟨_, rfl, ?_⟩))
 go_ret2
 exact ⟨by first | rfl | (simp [zn, zo] <;> rfl) | (simp [*, zn, zo] <;> rfl), by repeat (first | (with_reducible first | exact HB.out | apply zc | apply zb | apply zd) | exact HB.out)⟩
def xu (l : List S77) : Bool := xP Qr JN none l && decide ((l.length : Int) ≤ 32)
def qc.f (_k : Nat) (l : List S77) : Option Bool := some (xu l)
theorem ZX {l : List S77} {A : Option Addr} {c : Nat} {w : World} (hr : k77.C w A l.length l) : Calls Tryz.prog 143 #[.slice A l.length c] w fun e w' => e = .returned (.bool (xu l)) ∧ Below w.heap.size w w' := by
 have HR := za.mk hr
 have HLEN := za.mk hr.2.1
 have HS := Sat.nil w
 unfold xu
 generalize hg : xP Qr JN none l = g
 have HG := za.mk hg
 clear hr hg
 go_enter Tryz.func143, Tryz.ntmps143
 go_wp2
 have HZ := za.mk HS
 clear HS
 go_loopg [7] l.length (fun kq vi wr => ∃ i : Nat, vi = .int .i64 i ∧ za (i + kq = l.length) ∧ za (xP Qr JN (Zj l i) (l.drop i) = g) ∧ za (Sat [] w wr [] []))
 case atStart => exact ⟨0, rfl, ⟨by simp⟩, ⟨by rw [Yv, List.drop_zero]; exact HG.out⟩, HZ⟩
 case round =>
  clear HZ HG
  obtain ⟨i, rfl, HK, HO, HT⟩ := hrel
  have HS := HT.out
  clear HT
  have hil : i ≤ l.length := by have := HK.out; omega
  by_cases hlt : i < l.length
  ·obtain ⟨ad, e0, x0, x1⟩ := jS HR.out (i : Int) (by omega) (by omega)
   subst e0
   have hd1 : yi l ((i : Nat) : Int) = l[i] := by simp [yi, hlt]
   obtain ⟨j, hj⟩ : ∃ j, j = i - 1 := ⟨_, rfl⟩
   have hjl : j < l.length := by omega
   obtain ⟨ad2, e2, p0, -⟩ := jS HR.out (j : Int) (by omega) (by omega)
   obtain rfl : ad = ad2 := by injection e2
   have hd2 : yi l ((j : Nat) : Int) = l[j] := by simp [yi, hjl]
   have ho := HO.out
   rw [Qb Qr JN l i hlt j hj hjl] at ho
   rw [Int.toNat_natCast] at x0 x1 p0
   rw [hd1] at x0 x1
   rw [hd2] at p0
   generalize l[i] = y at ho x0 x1
   generalize l[j] = z at ho p0
   have b0 : (0 : Int) ≤ (i : Int) := by omega
   have b1 : (i : Int) < (l.length : Int) := by omega
   have b2 : (0 : Int) ≤ (j : Int) := by omega
   have b3 : (j : Int) < (l.length : Int) := by omega
   replace x0 := HS.at_ x0
   replace x1 := HS.at_ x1
   have j2 : 0 < i → wrap64 ((i : Int) - 1) = (j : Int) := fun h0 => by rw [xL (by omega) (by have := HLEN.out; omega)]; omega
   unfold Qr JN at ho
   generalize hu : wiB y.f0 1 1099511627776 = u at ho
   have HU := za.mk hu
   generalize hv : wiB y.f1 0 63 = v at ho
   have HV := za.mk hv
   generalize hp : decide ((0 : Int) < (i : Int)) = p at ho
   generalize ht : decide (y.f0 ≤ z.f0) = t at ho
   clear hd1 hd2 HO e2 hj hjl
   clear hu
   clear hv
   go_upto_region 4 with ((first | ((with_reducible refine gB rfl ?_); refine zC HS ?_) | ((with_reducible refine gA rfl ?_); refine zt HS ?_) | ((with_reducible refine gS rfl ?_); refine zr HS ?_)); clear HS; (try clear hc); intros; rename_i HS; have hc := HS.lk; simp only [Lk, LkC, Value.cells, List.toList_toArray, Nat.reduceAdd, Nat.zero_add, and_true, zf, zg, ze, zh] at HS hc)
   clear x0 x1
   obtain ⟨gx, rfl⟩ := HS.hd
   cases u
   case' true => cases v
   case' true.true => cases p
   case' true.true.true => cases t
   all_goals
    clear hc
    first
    | (have j4 := of_decide_eq_true hp; have j5 : decide (0 < i) = true := decide_eq_true (by omega); replace j2 := j2 (by omega); have j3 := (z6 _).trans j2)
    | (have j4 := of_decide_eq_false hp; have j5 : decide (0 < i) = false := decide_eq_false (by omega))
    | skip
    replace HS := HS.drewN 1
    refine qP (.op 0 0 12 (.op 1 0 13 (.op 2 2 14 (.op 3 1 15 (.op 4 1 16 (.op 5 0 17 (.op 6 0 18 (.op 7 2 19 (.op 8 1 20 (.op 9 1 21 (.op 10 1 22 (.op 11 1 23 (.op 12 1 24 (.op 13 1 25 (.op 14 0 26 (.op 15 0 27 (.op 16 1 28 (.op 17 1 29 (.op 18 1 30 (.op 19 1 31 (.op 20 1 32 (.op 21 0 33 (.op 22 1 34 (.op 23 1 35 (.op 24 1 36 .nil))))))))))))))))))))))))) [] (fun W => Lk W [(gx, [.int .i64 y.f0, .int .i64 y.f1], 77)] ∧ W.cell? (ad.add (j * 2)) = some (.int .i64 z.f0)) ((fun _ H => ⟨H.lk, H.at_ p0⟩) _ HS) (fun hS => ?_)
    (repeat (first | refine RT.tk ?_ | refine RT.tn ?_ | refine RT.pu ?_ | refine RT.pn ?_ | refine RT.n2 ?_ | (refine RT.o1 ?_; refine ju HS (fun _ H => ⟨H.lk, H.at_ p0⟩) (xk HU.out) ?_; clear HS hS; intro w_ hS HS; refine RT.nm ?_) | (refine RT.o1 ?_; refine ju HS (fun _ H => ⟨H.lk, H.at_ p0⟩) (xk HV.out) ?_; clear HS hS; intro w_ hS HS; refine RT.nm ?_)))
    refine RT.nil ?_
    clear hS p0
    go_wp2
    first
    | (go_ret; exact ⟨by rw [← ho]; rfl, HS.below⟩)
    | (go_roundg (l.length - (i + 1)); (case measure => have := HK.out; omega); (case rel => exact ⟨i + 1, by have h_ : wrap64 ((i : Int) + 1) = ((i + 1 : Nat) : Int) := z9 (by omega) (by have := HLEN.out; omega); first | (rw [h_]) | (simp only [h_]) | rfl, ⟨by have := HK.out; omega⟩, ⟨ho⟩, ⟨HS.off (.cons _ (List.Sublist.refl _))⟩⟩))
  ·have ho := HO.out
   rw [Q0 _ _ _ _ (by omega)] at ho
   subst ho
   obtain rfl : i = l.length := by omega
   clear HO
   go_wp2
   go_ret
   exact ⟨rfl, HS.below⟩
theorem qc.calls (k : Nat) (A : Option Addr) (c : Nat) (l : List S77) (r : Bool) (w : World) (hr : k77.C w A l.length l) (_hl : l.length ≤ c) (h : qc.f k l = some r) : Calls Tryz.prog 143 #[.slice A l.length c] w fun e w' => e = .returned (.bool r) ∧ Below w.heap.size w w' := by
 injection h with h
 subst h
 exact ZX hr
def xh.f (k : Nat) (l0 : List Int) (a1_0 : Int) (a1_1 : Int) : Option (List Int) := (zu.f k l0 (([a1_0, a1_1] : List Int))).bind fun t369 => (some t369)
theorem xh.calls (k : Nat) (P0_ : Nat → Prop) (u9000_ : Value) (l0 : List Int) (a1_0 : Int) (a1_1 : Int) (r : List Int) (w0 w : World) (hB : Below w0.heap.size w0 w) (ho0 : Kd.R (Kd.int .u8) 5 w w0.heap.size P0_ u9000_ l0) (h : xh.f k l0 a1_0 a1_1 = some r) :
  Calls Tryz.prog 145 #[u9000_, .agg #[.int .i64 a1_0, .int .i64 a1_1]] w fun e w' => ∃ v0_ : Value, e = .returned (v0_) ∧ Kd.R (Kd.int .u8) 5 w' w0.heap.size (fun k_ => (P0_ k_ ∨ w.heap.size ≤ k_)) v0_ r ∧ Below w0.heap.size w0 w' ∧ zi w w' (fun k_ => P0_ k_) := by
 have hu77 := Tryz.underlying77
 have HO0 := za.mk (show Kd.R (Kd.int .u8) 5 w w0.heap.size (fun k_ => (P0_ k_ ∨ w.heap.size ≤ k_)) u9000_ l0 from Kd.R_mono ho0 (fun k_ hk => (.inl hk)))
 have HK := za.mk (zi.refl w (fun k_ => P0_ k_))
 have HW0 := za.mk hB.size
 have HB := za.mk hB
 clear hB
 have H : ((zu.f k l0 (([a1_0, a1_1] : List Int))).bind fun t369 => (some t369)) = some r := h
 clear h
 obtain ⟨y366, hy366⟩ : ∃ y_ : List Int, y_ = (([a1_0, a1_1] : List Int)) := ⟨_, rfl⟩
 replace H : ((zu.f k l0 y366).bind fun t369 => (some t369)) = some r := by first | (rw [hy366]; with_reducible exact H) | (have H2_ := (Option.bind_some _ _).symm.trans H; rw [hy366]; with_reducible exact H2_) | (have H2_ := (Option.bind_some _ _).symm.trans H; with_reducible exact H2_) | with_reducible exact H | (rw [hy366]; exact H) | exact H
 have Ny366 := za.mk hy366
 clear hy366
 replace H := zdJ.mp H
 obtain ⟨t369, A30, H⟩ := H
 replace H : (some t369) = some r := H
 have A3 := za.mk A30
 clear A30
 obtain rfl := Option.some.inj H
 go_enter Tryz.func145, Tryz.ntmps145
 go_wp2_with (first | ((with_reducible refine zJ (N := 3) rfl ?_); refine yg ?hg (N := 3) ?hd (cs := #[.int .i64 a1_0, .int .i64 a1_1]) (t := 77) ?hr ?_; (case hd => rfl); (case hg => rfl); (case hr => first | (go_simp; done) | (go_simp; rfl)); intro gb365 hg w4 hbox hb; have n0_ := za.mk (Kd.R_below (by (with_reducible repeat (first | apply Kd.R_alloc | apply Kd.R_drewN | apply Kd.R_drew)); exact HO0.out) hb); have n1_ := za.mk (zi.below (S := (fun k_ => P0_ k_)) (by repeat (first | (with_reducible first | exact HK.out | apply zi.alloc | apply zi.drewN | apply zi.drew) | exact HK.out)) hb); have n2_ := za.mk (zp (by repeat (first | (with_reducible first | exact HB.out | apply zc | apply zb | apply zd) | exact HB.out)) hb); have n3_ := za.mk (hbox); have n4_ := za.mk ((by rw [hg]; exact (by first | exact HK.out.1 | exact (show zi w _ (fun k_ => P0_ k_) from by repeat (first | (with_reducible first | exact HK.out | apply zi.alloc | apply zi.drewN | apply zi.drew) | exact HK.out)).1) : w.heap.size ≤ gb365)); have n5_ := za.mk ((by rw [hg]; exact (zG (by repeat (first | (with_reducible first | exact HB.out | apply zc | apply zb | apply zd) | exact HB.out))) : w0.heap.size ≤ gb365)); clear HO0; clear HK; clear HB; have HO0 := n0_; have HK := n1_; have HB := n2_; have BK365 := n3_; have GW365 := n4_; have GE365 := n5_; clear n0_ n1_ n2_ n3_ n4_ n5_; clear hb hbox hg; have hcz5_0 : w4.cell? ⟨gb365, 0, none⟩ = some (.int .i64 a1_0) := (zk BK365.out 0).trans rfl; have hcz5_1 : w4.cell? ⟨gb365, 1, none⟩ = some (.int .i64 a1_1) := (zk BK365.out 1).trans rfl; have hfz5_0 := zl BK365.out 0; have hfz5_1 := zl BK365.out 1) | ((with_reducible refine zJ (N := 10) rfl ?_); refine Kd.R_lit (Kd.int .i64) _ 3 ?hg (N := 10) ?hd (xs := ([a1_0, a1_1] : List Int)) (inner := [.int .i64 a1_0, .int .i64 a1_1]) (ok := fun _ => True) (okp := fun _ => True) ?hr ?hp (fun _ hk => hk) trivial (Below.refl _ _) (Nat.le_refl _) (by simp) ?_; (case hd => rfl); (case hg => rfl); (case hr => first | (go_simp; done) | (go_simp; rfl)); (case hp => exact (zS.one (show Kd.M (Kd.int .i64) _ _ _ a1_0 [.int .i64 a1_0] from rfl) (zS.one (show Kd.M (Kd.int .i64) _ _ _ a1_1 [.int .i64 a1_1] from rfl) (zS.none _ _)))); intro v367 w6 ho7 hb hg_ hnew_; clear hg_ hnew_; (first | rw [← Ny366.out] at ho7 | (simp only [Int.reduceToNat] at ho7; rw [← Ny366.out] at ho7)); have n0_ := za.mk (Kd.R_below (by (with_reducible repeat (first | apply Kd.R_alloc | apply Kd.R_drewN | apply Kd.R_drew)); exact HO0.out) hb); have n1_ := za.mk (Kd.R_lower (Kd.R_newM (M := fun k_ => (P0_ k_ ∨ w.heap.size ≤ k_)) ho7 (by first | exact HK.out.1 | exact (show zi w _ (fun k_ => P0_ k_) from by repeat (first | (with_reducible first | exact HK.out | apply zi.alloc | apply zi.drewN | apply zi.drew | refine zi.setCell ?_ (.inr GW365.out) _) | exact HK.out)).1) (fun k_ h_ => .inr h_)) (zG (by repeat (first | (with_reducible first | exact HB.out | apply zc | apply zb | apply zd | refine zq ?_ GE365.out) | exact HB.out)))); have n2_ := za.mk (zP (g := gb365) (o := .cells #[.int .i64 a1_0, .int .i64 a1_1] 77 (0, 0)) (by (with_reducible repeat (first | refine zH ?_ _ | refine zM ?_ | refine zI ?_ _)); exact BK365.out) hb); have n3_ := za.mk (zi.below (S := (fun k_ => P0_ k_)) (by repeat (first | (with_reducible first | exact HK.out | apply zi.alloc | apply zi.drewN | apply zi.drew | refine zi.setCell ?_ (.inr GW365.out) _) | exact HK.out)) hb); have n4_ := za.mk (zp (by repeat (first | (with_reducible first | exact HB.out | apply zc | apply zb | apply zd | refine zq ?_ GE365.out) | exact HB.out)) hb); clear HO0; clear BK365; clear HK; clear HB; have HO0 := n0_; have HO368 := n1_; have BK365 := n2_; have HK := n3_; have HB := n4_; clear n0_ n1_ n2_ n3_ n4_; clear hb ho7; obtain ⟨Ao8, co8, eo8⟩ := Kd.R_slice HO0.out; subst eo8; obtain ⟨Ao9, co9, eo9⟩ := Kd.R_slice HO368.out; subst eo9) | ((with_reducible refine zy (f := 134) rfl ?_); refine zU (some 11) rfl rfl Tryz.func134 (by kernel_rfl) rfl #[.slice Ao8 l0.length co8, .slice Ao9 y366.length co9] rfl (by (try simp only [zdI, List.map_cons, List.map_nil]); first | done | rfl | (simp only [List.length_drop, List.length_take]; rfl)) ?_; (with_reducible refine (zu.calls k (fun k_ => some k_ = (.slice Ao8 l0.length co8 : Value).ownBlock) (.slice Ao8 l0.length co8) l0 _ _ y366 t369 w0 _ ?side1 ?side2 ?side3 ?side4 A3.out).mono ?_); (case side1 => repeat (first | (with_reducible first | exact HB.out | apply zc | apply zb | apply zd | refine zq ?_ GE365.out) | exact HB.out)); (case side2 => exact Kd.R_tight rfl HO0.out); (case side3 => exact Kd.C_kept_own ((Kd.R_apart' HO368.out (Kd.R_typed HO0.out) (by decide))) (fun k_ hk_ hs_ => (hk_.2) hs_)); (case side4 => exact (Kd.R_reads' HO368.out).2.1); rintro e w10 ⟨v370, rfl, ho0, hb, hkp⟩; refine ⟨_, rfl, ?_⟩; have n0_ := za.mk (jb (by (with_reducible repeat (first | refine zH ?_ _ | refine zM ?_ | refine zI ?_ _)); exact BK365.out) hkp (fun hs_ => (fun e_ => (Kd.R_ne HO0.out BK365.out (by decide)) e_) hs_)); have n1_ := za.mk (Kd.R_mono (ok' := fun k_ => (P0_ k_ ∨ w.heap.size ≤ k_)) (Kd.R_keptB ((Kd.R_apart' HO368.out (Kd.R_typed HO0.out) (by decide))) hkp (fun k_ hk_ hs_ => (hk_.2) hs_)) (fun k_ hk_ => hk_.1.1.1)); have n2_ := za.mk (Kd.R_mono (ok' := fun k_ => (P0_ k_ ∨ w.heap.size ≤ k_)) ho0 (fun k_ hk_ => Or.elim hk_ (fun hs_ => (HO0.out.1 k_ (hs_).symm)) (fun hn_ => (.inr (Nat.le_trans (by first | exact HK.out.1 | exact (show zi w _ (fun k_ => P0_ k_) from by repeat (first | (with_reducible first | exact HK.out | apply zi.alloc | apply zi.drewN | apply zi.drew | refine zi.setCell ?_ (.inr GW365.out) _) | exact HK.out)).1) hn_))))); have n3_ := za.mk (zi.then_ (S := (fun k_ => P0_ k_)) (by repeat (first | (with_reducible first | exact HK.out | apply zi.alloc | apply zi.drewN | apply zi.drew | refine zi.setCell ?_ (.inr GW365.out) _) | exact HK.out)) hkp (fun k_ hs_ => (fun e_ => (HO0.out.1 k_ e_.symm)) hs_)); have n4_ := za.mk (hb); clear BK365; clear HO368; clear HK; clear HB; clear HO0; have BK365 := n0_; have HO368 := n1_; have HO371 := n2_; have HK := n3_; have HB := n4_; clear n0_ n1_ n2_ n3_ n4_; (try clear hb); (try clear hkp); (try clear ho0)))
 go_ret
 exact ⟨_, by first | rfl | (simp [zn, zo] <;> rfl) | (simp [*, zn, zo] <;> rfl), by (with_reducible repeat (first | apply Kd.R_alloc | apply Kd.R_drewN | apply Kd.R_drew)); exact HO371.out, by repeat (first | (with_reducible first | exact HB.out | apply zc | apply zb | apply zd | refine zq ?_ GE365.out) | exact HB.out), by repeat (first | (with_reducible first | exact HK.out | apply zi.alloc | apply zi.drewN | apply zi.drew | refine zi.setCell ?_ (.inr GW365.out) _) | exact HK.out)⟩
def zw.l0 : Nat → List Int → List (S77) → Int → Int → Option (List Int)
 | 0, _, _, _, _ => none
 | k + 1, x0, x14, x15, x16 => if x16 < x15 then (if 0 ≤ x16 then (if x16 < (x14.length : Int) then ((xh.f k x0 ((yi x14 x16).f0) ((yi x14 x16).f1)).bind fun t380 => (zw.l0 k t380 x14 x15 (wrap64 (x16 + 1)))) else (none)) else (none)) else (some x0)
def zw.f (k : Nat) (l0 : List Int) (l1 : List (S77))  : Option (List Int) := (zu.f k l0 (([(l1.length : Int)] : List Int))).bind fun t375 => (zw.l0 k t375 l1 (l1.length : Int) 0)
theorem zw.calls (k : Nat) (P0_ : Nat → Prop) (u9000_ : Value) (l0 : List Int) (A1 : Option Addr) (c1 : Nat) (l1 : List (S77))  (r : List Int) (w0 w : World) (hB : Below w0.heap.size w0 w) (ho0 : Kd.R (Kd.int .u8) 5 w w0.heap.size P0_ u9000_ l0) (hr1 : ∀ W_, zi w W_ (fun k_ => P0_ k_) → Kd.C k77 W_ A1 l1.length l1) (hc1 : l1.length ≤ c1) (h : zw.f k l0 l1 = some r) :
  Calls Tryz.prog 144 #[u9000_, .slice A1 l1.length c1, .func (Fn.func 145) #[] #[]] w fun e w' => ∃ v0_ : Value, e = .returned (v0_) ∧ Kd.R (Kd.int .u8) 5 w' w0.heap.size (fun k_ => (P0_ k_ ∨ w.heap.size ≤ k_)) v0_ r ∧ Below w0.heap.size w0 w' ∧ zi w w' (fun k_ => P0_ k_) := by
 have hu77 := Tryz.underlying77
 have HO0 := za.mk (show Kd.R (Kd.int .u8) 5 w w0.heap.size (fun k_ => (P0_ k_ ∨ w.heap.size ≤ k_)) u9000_ l0 from Kd.R_mono ho0 (fun k_ hk => (.inl hk)))
 have HR1 := za.mk hr1
 have HC1 := za.mk hc1
 clear hr1 hc1
 have HK := za.mk (zi.refl w (fun k_ => P0_ k_))
 have HW0 := za.mk hB.size
 have HB := za.mk hB
 clear hB
 have H : ((zu.f k l0 (([(l1.length : Int)] : List Int))).bind fun t375 => (zw.l0 k t375 l1 (l1.length : Int) 0)) = some r := h
 clear h
 obtain ⟨y372, hy372⟩ : ∃ y_ : List Int, y_ = (([(l1.length : Int)] : List Int)) := ⟨_, rfl⟩
 replace H : ((zu.f k l0 y372).bind fun t375 => (zw.l0 k t375 l1 (l1.length : Int) 0)) = some r := by first | (rw [hy372]; with_reducible exact H) | (have H2_ := (Option.bind_some _ _).symm.trans H; rw [hy372]; with_reducible exact H2_) | (have H2_ := (Option.bind_some _ _).symm.trans H; with_reducible exact H2_) | with_reducible exact H | (rw [hy372]; exact H) | exact H
 have Ny372 := za.mk hy372
 clear hy372
 replace H := zdJ.mp H
 obtain ⟨t375, A40, H⟩ := H
 replace H : (zw.l0 k t375 l1 (l1.length : Int) 0) = some r := H
 have A4 := za.mk A40
 clear A40
 have H' := za.mk H
 clear H
 go_enter Tryz.func144, Tryz.ntmps144
 go_wp2_with (first | ((with_reducible refine zJ (N := 12) rfl ?_); refine Kd.R_lit (Kd.int .i64) _ 3 ?hg (N := 12) ?hd (xs := ([(l1.length : Int)] : List Int)) (inner := [.int .i64 (l1.length : Int)]) (ok := fun _ => True) (okp := fun _ => True) ?hr ?hp (fun _ hk => hk) trivial (Below.refl _ _) (Nat.le_refl _) (by simp) ?_; (case hd => rfl); (case hg => rfl); (case hr => first | (go_simp; done) | (go_simp; rfl)); (case hp => exact (zS.one (show Kd.M (Kd.int .i64) _ _ _ (l1.length : Int) [.int .i64 (l1.length : Int)] from rfl) (zS.none _ _))); intro v373 w5 ho6 hb hg_ hnew_; clear hg_ hnew_; (first | rw [← Ny372.out] at ho6 | (simp only [Int.reduceToNat] at ho6; rw [← Ny372.out] at ho6)); have n0_ := za.mk (Kd.R_below (by (with_reducible repeat (first | apply Kd.R_alloc | apply Kd.R_drewN | apply Kd.R_drew)); exact HO0.out) hb); have n1_ := za.mk (Kd.R_lower (Kd.R_newM (M := fun k_ => (P0_ k_ ∨ w.heap.size ≤ k_)) ho6 (by first | exact HK.out.1 | exact (show zi w _ (fun k_ => P0_ k_) from by repeat (first | (with_reducible first | exact HK.out | apply zi.alloc | apply zi.drewN | apply zi.drew) | exact HK.out)).1) (fun k_ h_ => .inr h_)) (zG (by repeat (first | (with_reducible first | exact HB.out | apply zc | apply zb | apply zd) | exact HB.out)))); have n2_ := za.mk (zi.below (S := (fun k_ => P0_ k_)) (by repeat (first | (with_reducible first | exact HK.out | apply zi.alloc | apply zi.drewN | apply zi.drew) | exact HK.out)) hb); have n3_ := za.mk (zp (by repeat (first | (with_reducible first | exact HB.out | apply zc | apply zb | apply zd) | exact HB.out)) hb); clear HO0; clear HK; clear HB; have HO0 := n0_; have HO374 := n1_; have HK := n2_; have HB := n3_; clear n0_ n1_ n2_ n3_; clear hb ho6; obtain ⟨Ao7, co7, eo7⟩ := Kd.R_slice HO0.out; subst eo7; obtain ⟨Ao8, co8, eo8⟩ := Kd.R_slice HO374.out; subst eo8) | ((with_reducible refine zy (f := 134) rfl ?_); refine zU (some 13) rfl rfl Tryz.func134 (by kernel_rfl) rfl #[.slice Ao7 l0.length co7, .slice Ao8 y372.length co8] rfl (by (try simp only [zdI, List.map_cons, List.map_nil]); first | done | rfl | (simp only [List.length_drop, List.length_take]; rfl)) ?_; (with_reducible refine (zu.calls k (fun k_ => some k_ = (.slice Ao7 l0.length co7 : Value).ownBlock) (.slice Ao7 l0.length co7) l0 _ _ y372 t375 w0 _ ?side1 ?side2 ?side3 ?side4 A4.out).mono ?_); (case side1 => repeat (first | (with_reducible first | exact HB.out | apply zc | apply zb | apply zd) | exact HB.out)); (case side2 => exact Kd.R_tight rfl HO0.out); (case side3 => exact Kd.C_kept_own ((Kd.R_apart' HO374.out (Kd.R_typed HO0.out) (by decide))) (fun k_ hk_ hs_ => (hk_.2) hs_)); (case side4 => exact (Kd.R_reads' HO374.out).2.1); rintro e w9 ⟨v376, rfl, ho0, hb, hkp⟩; refine ⟨_, rfl, ?_⟩; have n0_ := za.mk (Kd.R_mono (ok' := fun k_ => (P0_ k_ ∨ w.heap.size ≤ k_)) (Kd.R_keptB ((Kd.R_apart' HO374.out (Kd.R_typed HO0.out) (by decide))) hkp (fun k_ hk_ hs_ => (hk_.2) hs_)) (fun k_ hk_ => hk_.1.1.1)); have n1_ := za.mk (Kd.R_mono (ok' := fun k_ => (P0_ k_ ∨ w.heap.size ≤ k_)) ho0 (fun k_ hk_ => Or.elim hk_ (fun hs_ => (HO0.out.1 k_ (hs_).symm)) (fun hn_ => (.inr (Nat.le_trans (by first | exact HK.out.1 | exact (show zi w _ (fun k_ => P0_ k_) from by repeat (first | (with_reducible first | exact HK.out | apply zi.alloc | apply zi.drewN | apply zi.drew) | exact HK.out)).1) hn_))))); have n2_ := za.mk (zi.then_ (S := (fun k_ => P0_ k_)) (by repeat (first | (with_reducible first | exact HK.out | apply zi.alloc | apply zi.drewN | apply zi.drew) | exact HK.out)) hkp (fun k_ hs_ => (fun e_ => (HO0.out.1 k_ e_.symm)) hs_)); have n3_ := za.mk (hb); clear HO374; clear HK; clear HB; clear HO0; have HO374 := n0_; have HO377 := n1_; have HK := n2_; have HB := n3_; clear n0_ n1_ n2_ n3_; (try clear hb); (try clear hkp); (try clear ho0)))
 go_loopg [0, 16] k (fun kq v0 v16 w' => ∃ (x0_1 : List Int) (x16_1 : Int), v16 = .int .i64 x16_1 ∧ za (zw.l0 kq x0_1 l1 (l1.length : Int) x16_1 = some r) ∧ za (kq ≤ k) ∧ za (Kd.R (Kd.int .u8) 5 w' w0.heap.size (fun k_ => (P0_ k_ ∨ w.heap.size ≤ k_)) v0 x0_1) ∧ za (zi w w' (fun k_ => P0_ k_)) ∧ za (Below w0.heap.size w0 w'))
 case atStart => exact ⟨(t375), (0), (by first | rfl | (simp; done) | (simp [*]; done)), H', ⟨Nat.le_refl _⟩, ⟨by (with_reducible repeat (first | apply Kd.R_alloc | apply Kd.R_drewN | apply Kd.R_drew)); exact HO377.out⟩, ⟨by repeat (first | (with_reducible first | exact HK.out | apply zi.alloc | apply zi.drewN | apply zi.drew) | exact HK.out)⟩, ⟨by repeat (first | (with_reducible first | exact HB.out | apply zc | apply zb | apply zd) | exact HB.out)⟩⟩
 case round =>
  clear H'
  try clear c1
  try clear p2
  try clear c9
  obtain ⟨x0_1, x16_1, rfl, HA, HK1, HO_0, HK, HB⟩ := hrel
  cases gk with
  | zero => exact absurd HA.out (by simp [zw.l0])
  | succ k1 =>
   have H := HA.out
   clear HA
   simp only [zw.l0] at H
   by_cases c10 : x16_1 < (l1.length : Int)
   ·rw [if_pos c10] at H
    have c10b0 : decide (x16_1 < (l1.length : Int)) = true := decide_eq_true c10
    clear c10
    by_cases c11 : 0 ≤ x16_1
    ·rw [if_pos c11] at H
     have c11b0 : decide (0 ≤ x16_1) = true := decide_eq_true c11
     clear c11
     by_cases c12 : x16_1 < (l1.length : Int)
     ·rw [if_pos c12] at H
      have c12b0 : decide (x16_1 < (l1.length : Int)) = true := decide_eq_true c12
      clear c12
      replace H := zdJ.mp H
      obtain ⟨t380, A130, H⟩ := H
      replace H : (zw.l0 k1 t380 l1 (l1.length : Int) (wrap64 (x16_1 + 1))) = some r := H
      have A13 := za.mk A130
      clear A130
      have H' := za.mk H
      clear H
      have p378 : 0 ≤ (x16_1 : Int) := of_decide_eq_true (by first | (with_reducible assumption) | assumption)
      have q378 : x16_1 < (l1.length : Int) := of_decide_eq_true (by first | (with_reducible assumption) | assumption)
      obtain ⟨ad378, e378, hx378_0, hx378_1⟩ := jS (Kd.C_kept_now HR1.out HK.out) x16_1 p378 q378
      cases e378
      replace p378 := eq_true p378
      replace q378 := eq_true q378
      go_wp2_with (first | ((with_reducible refine zJ (N := 8) rfl ?_); refine yg ?hg (N := 8) ?hd (cs := #[.int .i64 0, .int .i64 0]) (t := 77) ?hr ?_; (case hd => rfl); (case hg => rfl); (case hr => first | (go_simp; done) | (go_simp; rfl)); intro gb379 hg w14 hbox hb; have n0_ := za.mk (Kd.R_below (by (with_reducible repeat (first | apply Kd.R_alloc | apply Kd.R_drewN | apply Kd.R_drew)); exact HO_0.out) hb); have n1_ := za.mk (zi.below (S := (fun k_ => P0_ k_)) (by repeat (first | (with_reducible first | exact HK.out | apply zi.alloc | apply zi.drewN | apply zi.drew) | exact HK.out)) hb); have n2_ := za.mk (zp (by repeat (first | (with_reducible first | exact HB.out | apply zc | apply zb | apply zd) | exact HB.out)) hb); have n3_ := za.mk (hbox); have n4_ := za.mk ((by rw [hg]; exact (by first | exact HK.out.1 | exact (show zi w _ (fun k_ => P0_ k_) from by repeat (first | (with_reducible first | exact HK.out | apply zi.alloc | apply zi.drewN | apply zi.drew) | exact HK.out)).1) : w.heap.size ≤ gb379)); have n5_ := za.mk ((by rw [hg]; exact (zG (by repeat (first | (with_reducible first | exact HB.out | apply zc | apply zb | apply zd) | exact HB.out))) : w0.heap.size ≤ gb379)); clear HO_0; clear HK; clear HB; have HO_0 := n0_; have HK := n1_; have HB := n2_; have BK379 := n3_; have GW379 := n4_; have GE379 := n5_; clear n0_ n1_ n2_ n3_ n4_ n5_; clear hb hbox hg; have hcz15_0 : w14.cell? ⟨gb379, 0, none⟩ = some (.int .i64 0) := (zk BK379.out 0).trans rfl; have hcz15_1 : w14.cell? ⟨gb379, 1, none⟩ = some (.int .i64 0) := (zk BK379.out 1).trans rfl; have hfz15_0 := zl BK379.out 0; have hfz15_1 := zl BK379.out 1) | ((with_reducible refine jV (t := 77) (p := 8) rfl ?_); refine jv (t := 77) (p := 8) (v := ?vo_w16) (w1 := ((w14.setCell ⟨gb379, 0, none⟩ (.int .i64 ((yi l1 x16_1).f0))).setCell ⟨gb379, 1, none⟩ (.int .i64 ((yi l1 x16_1).f1)))) ?hg ?ho ?hn ?hr ?_; (case ho => rfl); (case hg => rfl); (case hn => rfl); (case hr => first | (go_simp; done) | (go_simp; rfl)); intro w16 hw; have n0_ : za (Kd.R (Kd.int .u8) 5 w16 w0.heap.size (fun k_ => (P0_ k_ ∨ w.heap.size ≤ k_)) u0 x0_1) := ⟨(by rw [hw]; exact (by (with_reducible repeat (first | apply Kd.R_alloc | apply Kd.R_drewN | apply Kd.R_drew)); exact Kd.R_mono (Kd.R_far (p := ⟨gb379, 1, none⟩) (Kd.R_far (p := ⟨gb379, 0, none⟩) (Kd.R_types HO_0.out BK379.out (by decide)) (fun _ hk => hk.2) (.int .i64 ((yi l1 x16_1).f0))) (fun _ hk => hk.2) (.int .i64 ((yi l1 x16_1).f1))) (fun _ hk => hk.1)))⟩; have n1_ : za (w16.heap[gb379]? = some (.cells #[.int .i64 ((yi l1 x16_1).f0), .int .i64 ((yi l1 x16_1).f1)] 77 (0, 0))) := ⟨(by rw [hw]; exact (by (with_reducible repeat (first | refine zH ?_ _ | refine zM ?_ | refine zI ?_ _)); refine yH (cs := #[.int .i64 ((yi l1 x16_1).f0), .int .i64 0]) ?_ 1 _ rfl; (with_reducible repeat (first | refine zH ?_ _ | refine zM ?_ | refine zI ?_ _)); refine yH (cs := #[.int .i64 0, .int .i64 0]) ?_ 0 _ rfl; (with_reducible repeat (first | refine zH ?_ _ | refine zM ?_ | refine zI ?_ _)); exact BK379.out))⟩; have n2_ : za (zi w w16 (fun k_ => P0_ k_)) := ⟨(by rw [hw]; exact (by repeat (first | (with_reducible first | exact HK.out | apply zi.alloc | apply zi.drewN | apply zi.drew | refine zi.setCell ?_ (.inr GW379.out) _) | exact HK.out)))⟩; have n3_ : za (Below w0.heap.size w0 w16) := ⟨(by rw [hw]; exact (by repeat (first | (with_reducible first | exact HB.out | apply zc | apply zb | apply zd | refine zq ?_ GE379.out) | exact HB.out)))⟩; clear hw; clear HO_0; clear BK379; clear HK; clear HB; have HO_0 := n0_; have BK379 := n1_; have HK := n2_; have HB := n3_; clear n0_ n1_ n2_ n3_; have hcz17_0 : w16.cell? ⟨gb379, 0, none⟩ = some (.int .i64 ((yi l1 x16_1).f0)) := (zk BK379.out 0).trans rfl; have hcz17_1 : w16.cell? ⟨gb379, 1, none⟩ = some (.int .i64 ((yi l1 x16_1).f1)) := (zk BK379.out 1).trans rfl; have hfz17_0 := zl BK379.out 0; have hfz17_1 := zl BK379.out 1; obtain ⟨Ao18, co18, eo18⟩ := Kd.R_slice HO_0.out; subst eo18) | ((with_reducible refine zJ (N := 23) rfl ?_); refine jT (some 23) rfl rfl Tryz.func145 (by kernel_rfl) rfl #[.slice Ao18 x0_1.length co18, .agg #[.int .i64 ((yi l1 x16_1).f0), .int .i64 ((yi l1 x16_1).f1)]] rfl (by (try simp only [zdI, List.map_cons, List.map_nil]); first | done | rfl | (simp only [List.length_drop, List.length_take]; rfl)) ?_; (with_reducible refine (xh.calls k1 (fun k_ => some k_ = (.slice Ao18 x0_1.length co18 : Value).ownBlock) (.slice Ao18 x0_1.length co18) x0_1 ((yi l1 x16_1).f0) ((yi l1 x16_1).f1) t380 w0 _ ?side1 ?side2 A13.out).mono ?_); (case side1 => repeat (first | (with_reducible first | exact HB.out | apply zc | apply zb | apply zd | refine zq ?_ GE379.out) | exact HB.out)); (case side2 => exact Kd.R_tight rfl HO_0.out); rintro e w19 ⟨v381, rfl, ho0, hb, hkp⟩; refine ⟨_, rfl, ?_⟩; have n0_ := za.mk (jb (by (with_reducible repeat (first | refine zH ?_ _ | refine zM ?_ | refine zI ?_ _)); exact BK379.out) hkp (fun hs_ => (fun e_ => (Kd.R_ne HO_0.out BK379.out (by decide)) e_) hs_)); have n1_ := za.mk (Kd.R_mono (ok' := fun k_ => (P0_ k_ ∨ w.heap.size ≤ k_)) ho0 (fun k_ hk_ => Or.elim hk_ (fun hs_ => (HO_0.out.1 k_ (hs_).symm)) (fun hn_ => (.inr (Nat.le_trans (by first | exact HK.out.1 | exact (show zi w _ (fun k_ => P0_ k_) from by repeat (first | (with_reducible first | exact HK.out | apply zi.alloc | apply zi.drewN | apply zi.drew | refine zi.setCell ?_ (.inr GW379.out) _) | exact HK.out)).1) hn_))))); have n2_ := za.mk (zi.then_ (S := (fun k_ => P0_ k_)) (by repeat (first | (with_reducible first | exact HK.out | apply zi.alloc | apply zi.drewN | apply zi.drew | refine zi.setCell ?_ (.inr GW379.out) _) | exact HK.out)) hkp (fun k_ hs_ => (fun e_ => (HO_0.out.1 k_ e_.symm)) hs_)); have n3_ := za.mk (hb); clear BK379; clear HK; clear HB; clear HO_0; have BK379 := n0_; have HO382 := n1_; have HK := n2_; have HB := n3_; clear n0_ n1_ n2_ n3_; (try clear hb); (try clear hkp); (try clear ho0)))
      go_roundg k1
      case measure => have := HK1.out; omega
      case rel => exact ⟨(t380), (wrap64 (x16_1 + 1)), (by first | rfl | (simp; done) | (simp [*]; done)), H', ⟨by have := HK1.out; omega⟩, ⟨by (with_reducible repeat (first | apply Kd.R_alloc | apply Kd.R_drewN | apply Kd.R_drew)); exact HO382.out⟩, ⟨by repeat (first | (with_reducible first | exact HK.out | apply zi.alloc | apply zi.drewN | apply zi.drew | refine zi.setCell ?_ (.inr GW379.out) _) | exact HK.out)⟩, ⟨by repeat (first | (with_reducible first | exact HB.out | apply zc | apply zb | apply zd | refine zq ?_ GE379.out) | exact HB.out)⟩⟩
     ·rw [if_neg c12] at H
      exact absurd H (by simp)
    ·rw [if_neg c11] at H
     exact absurd H (by simp)
   ·rw [if_neg c10] at H
    have c10b0 : decide (x16_1 < (l1.length : Int)) = false := decide_eq_false c10
    clear c10
    obtain rfl := Option.some.inj H
    go_wp2
    go_ret
    exact ⟨_, by first | rfl | (simp [zn, zo] <;> rfl) | (simp [*, zn, zo] <;> rfl), by (with_reducible repeat (first | apply Kd.R_alloc | apply Kd.R_drewN | apply Kd.R_drew)); exact HO_0.out, by repeat (first | (with_reducible first | exact HB.out | apply zc | apply zb | apply zd) | exact HB.out), by repeat (first | (with_reducible first | exact HK.out | apply zi.alloc | apply zi.drewN | apply zi.drew) | exact HK.out)⟩
def yz.f (k : Nat) (l0 : List (S77)) : Option (ByteArray × Int) := (qc.f k l0).bind fun t383 => ((zw.f k ([] : List Int) l0).bind fun t384 => ((yl.f t383 t384).bind fun bt387 => (some (bt387.1, bt387.2))))
theorem yz.calls (k : Nat) (A0 : Option Addr) (c0 : Nat) (l0 : List (S77)) (r1 : ByteArray) (r2 : Int) (w : World) (hr0 : Kd.C k77 w A0 l0.length l0) (hc0 : l0.length ≤ c0) (h : yz.f k l0 = some (r1, r2)) :
  Calls Tryz.prog 106 #[.slice A0 l0.length c0] w fun e w' => e = .returned (.tuple #[.string r1, .int .i64 r2]) ∧ Below w.heap.size w w' := by
 have HR0 := za.mk hr0
 have HC0 := za.mk hc0
 clear hr0 hc0
 have HB := za.mk (Below.refl w.heap.size w)
 have H : ((qc.f k l0).bind fun t383 => ((zw.f k ([] : List Int) l0).bind fun t384 => ((yl.f t383 t384).bind fun bt387 => (some (bt387.1, bt387.2))))) = some (r1, r2) := h
 clear h
 replace H := zdJ.mp H
 obtain ⟨t383, A20, H⟩ := H
 replace H : ((zw.f k ([] : List Int) l0).bind fun t384 => ((yl.f t383 t384).bind fun bt387 => (some (bt387.1, bt387.2)))) = some (r1, r2) := H
 have A2 := za.mk A20
 clear A20
 replace H := zdJ.mp H
 obtain ⟨t384, A30, H⟩ := H
 replace H : ((yl.f t383 t384).bind fun bt387 => (some (bt387.1, bt387.2))) = some (r1, r2) := H
 have A3 := za.mk A30
 clear A30
 replace H := zdJ.mp H
 obtain ⟨⟨t387, t388⟩, A40, H⟩ := H
 replace H : (some (t387, t388)) = some (r1, r2) := H
 have A4 := za.mk A40
 clear A40
 simp only [Option.some.injEq, Prod.mk.injEq] at H
 obtain ⟨rfl, rfl⟩ := H
 go_enter Tryz.func106, Tryz.ntmps106
 go_wp2_with (first | ((with_reducible refine zy (f := 143) rfl ?_); refine zU (some 5) rfl rfl Tryz.func143 (by kernel_rfl) rfl #[.slice A0 l0.length c0] rfl (by (try simp only [zdI, List.map_cons, List.map_nil]); first | done | rfl | (simp only [List.length_drop, List.length_take]; rfl)) ?_; (with_reducible refine (qc.calls k _ _ l0 t383 _ ?side1 ?side2 A2.out).mono ?_); (case side1 => repeat (first | exact HR0.out | (with_reducible refine Kd.C_alloc ?_ _) | (with_reducible refine Kd.C_drewN ?_ _) | (with_reducible refine Kd.C_drew ?_))); (case side2 => exact HC0.out); rintro e w5 ⟨rfl, hb⟩; refine ⟨_, rfl, ?_⟩; have n0_ := za.mk (zp (by repeat (first | (with_reducible first | exact HB.out | apply zc | apply zb | apply zd) | exact HB.out)) hb); clear HB; have HB := n0_; clear n0_; (try clear hb); (try clear hb2); (try clear hk); (try clear hi)) | ((with_reducible refine zy (f := 144) rfl ?_); refine zU (some 7) rfl rfl Tryz.func144 (by kernel_rfl) rfl #[.slice none 0 0, .slice A0 l0.length c0, .func (Fn.func 145) #[] #[]] rfl (by (try simp only [zdI, List.map_cons, List.map_nil]); first | done | rfl | (simp only [List.length_drop, List.length_take]; rfl)) ?_; (refine (zw.calls k (fun k_ => some k_ = (.slice none 0 0 : Value).ownBlock) (.slice none 0 0) ([] : List Int) _ _ l0 t384 w _ ?side1 ?side2 ?side3 ?side4 A3.out).mono ?_); (case side1 => repeat (first | (with_reducible first | exact HB.out | apply zc | apply zb | apply zd) | exact HB.out)); (case side2 => exact Kd.R_nil _ _ _ _ _); (case side3 => exact Kd.C_kept_came zbU HR0.out (by repeat (first | (with_reducible first | exact HB.out | apply zc | apply zb | apply zd) | exact HB.out)) (fun k_ hs_ => (fun e_ => by simp [Value.ownBlock] at e_) hs_)); (case side4 => exact HC0.out); rintro e w6 ⟨v385, rfl, ho0, hb, hkp⟩; refine ⟨_, rfl, ?_⟩; have n0_ := za.mk (Kd.R_mono (ok' := fun k_ => True) ho0 (fun k_ hk_ => trivial)); have n1_ := za.mk (hb); clear HB; have HO386 := n0_; have HB := n1_; clear n0_ n1_; (try clear hb); (try clear hkp); (try clear ho0); obtain ⟨Ao7, co7, eo7⟩ := Kd.R_slice HO386.out; subst eo7) | ((with_reducible refine zy (f := 132) rfl ?_); refine zU (some 8) rfl rfl Tryz.func132 (by kernel_rfl) rfl #[.bool t383, .slice Ao7 t384.length co7] rfl (by (try simp only [zdI, List.map_cons, List.map_nil]); first | done | rfl | (simp only [List.length_drop, List.length_take]; rfl)) ?_; (with_reducible refine (yl.calls t383 _ _ t384 t387 t388 _ ?side1 ?side2 A4.out).mono ?_); (case side1 => repeat (first | exact (Kd.R_reads' HO386.out).2.2 | (with_reducible refine Kd.C_alloc ?_ _) | (with_reducible refine Kd.C_drewN ?_ _) | (with_reducible refine Kd.C_drew ?_))); (case side2 => exact (Kd.R_reads' HO386.out).2.1); rintro e w' ⟨rfl, ⟨nd, rfl⟩⟩; refine ⟨_, rfl, ?_⟩))
 go_ret2
 exact ⟨by first | rfl | (simp [zn, zo] <;> rfl) | (simp [*, zn, zo] <;> rfl), by repeat (first | (with_reducible first | exact HB.out | apply zc | apply zb | apply zd) | exact HB.out)⟩
def jX.f (a0 : Int) : Option (Bool) := (zT.f a0 0 1099511627776).bind fun t293 => (some t293)
theorem jX.calls (a0 : Int) (r : Bool) (w : World) (h : jX.f a0 = some r) :
  Calls Tryz.prog 128 #[.int .i64 a0] w fun e w' => e = .returned (.bool r) ∧ zj w w' := by
 have H : ((zT.f a0 0 1099511627776).bind fun t293 => (some t293)) = some r := h
 clear h
 replace H := zdJ.mp H
 obtain ⟨t293, A20, H⟩ := H
 replace H : (some t293) = some r := H
 have A2 := za.mk A20
 clear A20
 obtain rfl := Option.some.inj H
 go_enter Tryz.func128, Tryz.ntmps128
 go_wp2_with (first | ((with_reducible refine zy (f := 38) rfl ?_); refine zU (some 4) rfl rfl Tryz.func38 (by kernel_rfl) rfl #[.int .i64 a0, .int .i64 0, .int .i64 1099511627776] rfl (by (try simp only [zdI, List.map_cons, List.map_nil]); first | done | rfl | (simp only [List.length_drop, List.length_take]; rfl)) ?_; (with_reducible refine (zT.calls a0 0 1099511627776 t293 _ A2.out).mono ?_); rintro e w' ⟨rfl, ⟨nd, rfl⟩⟩; refine ⟨_, rfl, ?_⟩))
 go_ret
 exact ⟨by first | rfl | (simp; done) | (simp [*]; done), by repeat (first | exact zj.refl _ | apply zj.step)⟩
end Go.Proofs.YtepipnpfggnadaaGreat.Q
