/- Texts of this session laid together (shrink.py): what the claim's law rests on. -/
import Derived.Below
import Derived.Deep.Draws
import Derived.Deep.AppendLies
import Derived.Maps.AppendAt
import Derived.OwnWalk
import Derived.Laws.BytesArg
import Derived.Laws.MakeOwn
import Derived.Laws.OwnMore
import Derived.Deep.OwnRows
import Derived.Tactics
import Derived.Lib.ConvBytes
import Derived.Laws.Slices
import Derived.WalkKit
import Derived.KernelRfl
import Derived.RowKit3
import Derived.Deep.LoopGhost
import Derived.Deep.QuietTactic
import Derived.BigQuiet
import Derived.WideLaws
import Derived.Deep.DeepCutAuto
import Derived.Deep.CutBlock
import Derived.Deep.RegionHeld3
import Derived.Laws.Rows
import Derived.Lib.AppendStr
import Derived.ArgAppend
import Derived.Laws.IdiomCopy
import Derived.RowKit
import Derived.OrdersHeld
import Derived.Laws.BitsLemmas
import Derived.Laws.StructEq
import Derived.Test.YtbfehjncllkogaaProg
import Derived.WalkMore
import Derived.Lib.Strings
import Derived.Outline
import Derived.Test.YtbfehjncllkogaaTCodecBackg
set_option linter.unusedVariables false
set_option linter.unusedSimpArgs false
set_option maxRecDepth 100000
set_option maxHeartbeats 8000000
open Bool renaming true → ZT, false → ZF
open List renaming setIfInBounds_toArray → Vt
open List renaming set_cons_zero → Vu
open List renaming set_cons_succ → Vv
open List renaming map_toArray → Vw
open Option renaming bind_eq_some_iff → Vx
open Go.World renaming block_lt_of_cell? → Vy
open ByteArray renaming size_append → Vz
open Bool renaming eq_false_iff → VA
open List renaming length_append → VB
namespace Go.Proofs.Ytbfehjncllkogaa.Q
open Go.RowKit Go.Proofs.YtbfehjncllkogaaW.PrintWords Go.Proofs.YtbfehjncllkogaaW.PrintLast Go.Proofs.YtbfehjncllkogaaW.PrintMore
attribute [local go_sem] qw qx qN qK qg qh qz qu
def yP.f (k : Nat) (l0 : List Int) (a1_0 : Int) (l1_1 : List Int) : Option (List Int) := (zD.f k l0 (([a1_0] : List Int))).bind fun t183 => ((yy.f t183 l1_1).bind fun t186 => (some t186))
def yP.T1 : Bool × List (List Nat × List Nat) := (true, [([], []), ([], []), ([1], [1]), ([2], [2]), ([0, 3], [0, 3]), ([], []), ([5], [5]), ([4, 6, 4], [4, 6]), ([7, 7, 0, 1, 2, 3, 4, 5, 6, 7], [7])])
def yP.B1 : List Nat := [0, 0, 2, 6, 15, 0, 32, 127, 255]
theorem yP.tab1 : xJ .any (vm Try.f45 1) = yP.T1 := by kernel_rfl
theorem yP.bits1 : qe yP.T1.2 yP.B1 = true := by kernel_rfl
theorem yP.calls (k : Nat) (P0_ : Nat → Prop) (u9000_ : Value) (l0 : List Int) (a1_0 : Int) (A1_1 : Option Addr) (c1_1 : Nat) (l1_1 : List Int) (r : List Int) (w0 w : World) (hB : Below w0.heap.size w0 w) (ho0 : Kd.R (Kd.int .u8) 5 w w0.heap.size P0_ u9000_ l0) (hr1_1 : ∀ W_, zq w W_ (fun k_ => P0_ k_) → Kd.C (Kd.int .i64) W_ A1_1 l1_1.length l1_1) (hc1_1 : l1_1.length ≤ c1_1) (h : yP.f k l0 a1_0 l1_1 = some r) :
  Calls Try.prog 45 #[u9000_, .agg #[.int .i64 a1_0, .slice A1_1 l1_1.length c1_1]] w fun e w' => ∃ v0_ : Value, e = .returned (v0_) ∧ Kd.R (Kd.int .u8) 5 w' w0.heap.size (fun k_ => (P0_ k_ ∨ w.heap.size ≤ k_)) v0_ r ∧ Below w0.heap.size w0 w' ∧ zq w w' (fun k_ => P0_ k_) := by
 have hu81 := Try.underlying81
 have HO0 := za.mk (show Kd.R (Kd.int .u8) 5 w w0.heap.size (fun k_ => (P0_ k_ ∨ w.heap.size ≤ k_)) u9000_ l0 from Kd.R_mono ho0 (fun k_ hk => (.inl hk)))
 have HR1_1 := za.mk hr1_1
 have HC1_1 := za.mk hc1_1
 clear hr1_1 hc1_1
 have HK := za.mk (zq.refl w (fun k_ => P0_ k_))
 have HW0 := za.mk hB.size
 have HB := za.mk hB
 clear hB
 have H : ((zD.f k l0 (([a1_0] : List Int))).bind fun t183 => ((yy.f t183 l1_1).bind fun t186 => (some t186))) = some r := h
 clear h
 obtain ⟨y180, hy180⟩ : ∃ y_ : List Int, y_ = (([a1_0] : List Int)) := ⟨_, rfl⟩
 replace H : ((zD.f k l0 y180).bind fun t183 => ((yy.f t183 l1_1).bind fun t186 => (some t186))) = some r := by first | (rw [hy180]; with_reducible exact H) | (have H2_ := (Option.bind_some _ _).symm.trans H; rw [hy180]; with_reducible exact H2_) | (have H2_ := (Option.bind_some _ _).symm.trans H; with_reducible exact H2_) | with_reducible exact H | (rw [hy180]; exact H) | exact H
 have Ny180 := za.mk hy180
 clear hy180
 replace H := Vx.mp H
 obtain ⟨t183, A30, H⟩ := H
 replace H : ((yy.f t183 l1_1).bind fun t186 => (some t186)) = some r := H
 have A3 := za.mk A30
 clear A30
 replace H := Vx.mp H
 obtain ⟨t186, A40, H⟩ := H
 replace H : (some t186) = some r := H
 have A4 := za.mk A40
 clear A40
 obtain rfl := Option.some.inj H
 go_enter Try.func45, Try.ntmps45
 try go_wp2_with (first | ((with_reducible refine zC (N := 3) rfl ?_); refine zF ?hg (N := 3) ?hd (cs := #[.int .i64 a1_0, .slice A1_1 l1_1.length c1_1]) (t := 81) ?hr ?_; (case hd => rfl); (case hg => rfl); (case hr => first | (go_simp; done) | (go_simp; rfl)); intro gb179 hg w5 hbox hb; have n0_ := za.mk (Kd.R_below (by (with_reducible repeat (first | apply Kd.R_alloc | apply Kd.R_drewN | apply Kd.R_drew)); exact HO0.out) hb); have n1_ := za.mk (zq.below (S := (fun k_ => P0_ k_)) (by repeat (first | (with_reducible first | exact HK.out | apply zq.alloc | apply zq.drewN | apply zq.drew) | exact HK.out)) hb); have n2_ := za.mk (zi (by repeat (first | (with_reducible first | exact HB.out | apply zc | apply zb | apply zd) | exact HB.out)) hb); have n3_ := za.mk (hbox); have n4_ := za.mk ((by rw [hg]; exact (by first | exact HK.out.1 | exact (show zq w _ (fun k_ => P0_ k_) from by repeat (first | (with_reducible first | exact HK.out | apply zq.alloc | apply zq.drewN | apply zq.drew) | exact HK.out)).1) : w.heap.size ≤ gb179)); have n5_ := za.mk ((by rw [hg]; exact (zp (by repeat (first | (with_reducible first | exact HB.out | apply zc | apply zb | apply zd) | exact HB.out))) : w0.heap.size ≤ gb179)); clear HO0; clear HK; clear HB; have HO0 := n0_; have HK := n1_; have HB := n2_; have BK179 := n3_; have GW179 := n4_; have GE179 := n5_; clear n0_ n1_ n2_ n3_ n4_ n5_; clear hb hbox hg))
 have n0_ := za.mk (Kd.R_drew HO0.out)
 have n1_ := za.mk (zu BK179.out)
 have n2_ := za.mk (zq.drew HK.out)
 have n3_ := za.mk (zd HB.out)
 clear HO0
 clear BK179
 clear HK
 clear HB
 have HO0 := n0_
 have BK179 := n1_
 have HK := n2_
 have HB := n3_
 clear n0_ n1_ n2_ n3_
 refine qF (n := 9) (S := fun w' => w'.cell? ⟨gb179, 0, none⟩ = some (.int .i64 a1_0) ∧ w'.cell? ⟨gb179, 1, none⟩ = some (.slice A1_1 l1_1.length c1_1)) (ds := []) #[ZF,ZF,ZF,ZF,ZF,ZF,ZF,ZF,ZF] (by kernel_rfl) rfl rfl ⟨(zg BK179.out 0).trans rfl, (zg BK179.out 1).trans rfl⟩ (fun hHeld => ?_); refine xV yP.tab1 yP.bits1 (fun HT_ HW_ => ?_)
 generalize w5.drew = w6 at HO0 BK179 HK HB hHeld ⊢
 refine zZ (i := 0) (N := some 5) (v := ?_) (a' := ?_) #[ZT,ZF,ZF,ZF,ZF,ZF,ZF,ZF,ZF] rfl rfl (zV HT_.out (by kernel_rfl)) (fun _ _ _ h => h) (Or.inl ⟨by rfl, ?_⟩) ?_ ?_
 rotate_left
 ·intro w'
  go_simp
  with_reducible rfl
 rotate_left
 ·simp only [Act.put, Vt, Vu, Vv, zx, zz]
  rfl
 refine zZ (i := 1) (N := some 6) (v := ?_) (a' := ?_) #[ZT,ZT,ZF,ZF,ZF,ZF,ZF,ZF,ZF] rfl rfl (zV HT_.out (by kernel_rfl)) (fun _ _ _ h => h) (Or.inl ⟨by rfl, ?_⟩) ?_ ?_
 rotate_left
 ·intro w'
  go_simp
  with_reducible rfl
 rotate_left
 ·simp only [Act.put, Vt, Vu, Vv, zx, zz]
  rfl
 refine zZ (i := 5) (N := some 10) (v := ?_) (a' := ?_) #[ZT,ZT,ZF,ZF,ZF,ZT,ZF,ZF,ZF] rfl rfl (zV HT_.out (by kernel_rfl)) (fun _ _ _ h => h) (Or.inl ⟨by rfl, ?_⟩) ?_ ?_
 rotate_left
 ·intro w'
  go_simp
  with_reducible rfl
 rotate_left
 ·simp only [Act.put, Vt, Vu, Vv, zx, zz]
  rfl
 refine take_ (i := 2) (N := some 7) (v := ?_) (a' := ?_) #[ZT,ZT,ZT,ZF,ZF,ZT,ZF,ZF,ZF] rfl rfl (yN HT_.out HW_.out (by kernel_rfl)) (fun _ _ _ h => h) (Or.inl ⟨by rfl, ?_⟩) hHeld ?_ ?_
 rotate_left
 ·rintro w' ⟨s0, s1⟩
  go_simp
  with_reducible rfl
 rotate_left
 ·simp only [Act.put, Vt, Vu, Vv, zx, zz]
  rfl
 refine take_ (i := 6) (N := some 11) (v := ?_) (a' := ?_) #[ZT,ZT,ZT,ZF,ZF,ZT,ZT,ZF,ZF] rfl rfl (yN HT_.out HW_.out (by kernel_rfl)) (fun _ _ _ h => h) (Or.inl ⟨by rfl, ?_⟩) hHeld ?_ ?_
 rotate_left
 ·rintro w' ⟨s0, s1⟩
  go_simp
  with_reducible rfl
 rotate_left
 ·simp only [Act.put, Vt, Vu, Vv, zx, zz]
  rfl
 refine xC (i := 3) (N := some 8) #[ZT,ZT,ZT,ZT,ZF,ZT,ZT,ZF,ZF] rfl rfl (y9 HT_.out (by kernel_rfl)) (by decide) (fun K hK => ?_)
 refine Kd.R_lit_step (Kd.int .i64) _ 3 ?hg (N := 8) ?hd (xs := ([a1_0] : List Int)) (inner := [.int .i64 a1_0]) (ok := fun _ => True) (okp := fun _ => True) ?hr ?hp (fun _ hk => hk) trivial (Below.refl _ _) (Nat.le_refl _) (by simp) ?_; (case hd => rfl); (case hg => rfl); (case hr => first | (go_simp; done) | (go_simp; rfl)); (case hp => exact (yh.one (show Kd.M (Kd.int .i64) _ _ _ a1_0 [.int .i64 a1_0] from rfl) (yh.none _ _)))
 intro v181 w7 ho8 hb hg_ hnew_
 clear hg_ hnew_
 (first | rw [← Ny180.out] at ho8 | (simp only [Int.reduceToNat] at ho8; rw [← Ny180.out] at ho8))
 have n0_ := za.mk (Kd.R_below (by (with_reducible repeat (first | apply Kd.R_alloc | apply Kd.R_drewN | apply Kd.R_drew)); exact HO0.out) hb)
 have n1_ := za.mk (Kd.R_lower (Kd.R_newM (M := fun k_ => (P0_ k_ ∨ w.heap.size ≤ k_)) ho8 (by first | exact HK.out.1 | exact (show zq w _ (fun k_ => P0_ k_) from by repeat (first | (with_reducible first | exact HK.out | apply zq.alloc | apply zq.drewN | apply zq.drew | refine zq.setCell ?_ (.inr GW179.out) _) | exact HK.out)).1) (fun k_ h_ => .inr h_)) (zp (by repeat (first | (with_reducible first | exact HB.out | apply zc | apply zb | apply zd | refine zh ?_ GE179.out) | exact HB.out))))
 have n2_ := za.mk (zH (g := gb179) (o := .cells #[.int .i64 a1_0, .slice A1_1 l1_1.length c1_1] 81 (0, 0)) (by (with_reducible repeat (first | refine zt ?_ _ | refine zu ?_ | refine zr ?_ _)); exact BK179.out) hb)
 have n3_ := za.mk (zq.below (S := (fun k_ => P0_ k_)) (by repeat (first | (with_reducible first | exact HK.out | apply zq.alloc | apply zq.drewN | apply zq.drew | refine zq.setCell ?_ (.inr GW179.out) _) | exact HK.out)) hb)
 have n4_ := za.mk (zi (by repeat (first | (with_reducible first | exact HB.out | apply zc | apply zb | apply zd | refine zh ?_ GE179.out) | exact HB.out)) hb)
 clear HO0
 clear BK179
 clear HK
 clear HB
 have HO0 := n0_
 have HO182 := n1_
 have BK179 := n2_
 have HK := n3_
 have HB := n4_
 clear n0_ n1_ n2_ n3_ n4_
 clear hb ho8
 obtain ⟨Ao9, co9, eo9⟩ := Kd.R_slice HO0.out
 (first | subst eo9 | (injection eo9 with f1_ f2_ f3_; have f4_ := f1_.symm; have f5_ := f3_.symm; clear f1_ f2_ f3_; subst f4_; subst f5_))
 obtain ⟨Ao10, co10, eo10⟩ := Kd.R_slice HO182.out
 (first | subst eo10 | (injection eo10 with f1_ f2_ f3_; have f4_ := f1_.symm; have f5_ := f3_.symm; clear f1_ f2_ f3_; subst f4_; subst f5_))
 refine hK.out _ _ ⟨(zg BK179.out 0).trans rfl, (zg BK179.out 1).trans rfl⟩ (fun hHeld => ?_)
 clear hK K
 refine yH (a' := ?_) ?_ ?_
 rotate_left
 ·show Act.put _ (some 8) _ = _
  simp only [Act.put, Vt, Vu, Vv, zx, zz]
  rfl
 refine xC (i := 4) (N := some 9) #[ZT,ZT,ZT,ZT,ZT,ZT,ZT,ZF,ZF] rfl rfl (y9 HT_.out (by kernel_rfl)) (by decide) (fun K hK => ?_)
 refine xa Try.func39 (by kernel_rfl) rfl #[.slice Ao9 l0.length co9, .slice Ao10 y180.length co10] (by rfl) rfl rfl (by (try simp only [Vw, List.map_cons, List.map_nil]); first | done | rfl | (simp only [List.length_drop, List.length_take]; rfl)) ?_
 with_reducible refine (zD.calls k (fun k_ => some k_ = (.slice Ao9 l0.length co9 : Value).ownBlock) (.slice Ao9 l0.length co9) l0 _ _ y180 t183 w0 _ ?side1 ?side2 ?side3 ?side4 A3.out).mono ?_
 (case side1 => repeat (first | (with_reducible first | exact HB.out | apply zc | apply zb | apply zd | refine zh ?_ GE179.out) | exact HB.out))
 (case side2 => exact Kd.R_tight rfl HO0.out)
 (case side3 => exact Kd.C_kept_own ((Kd.R_apart' HO182.out (Kd.R_typed HO0.out) (by decide))) (fun k_ hk_ hs_ => (hk_.2) hs_))
 (case side4 => exact (Kd.R_reads' HO182.out).2.1)
 rintro e w11 ⟨v184, rfl, ho0, hb, hkp⟩
 refine ⟨_, rfl, ?_⟩
 have n0_ := za.mk (y6 (by (with_reducible repeat (first | refine zt ?_ _ | refine zu ?_ | refine zr ?_ _)); exact BK179.out) hkp (fun hs_ => (fun e_ => (Kd.R_ne HO0.out BK179.out (by decide)) e_) hs_))
 have n1_ := za.mk (Kd.R_mono (ok' := fun k_ => (P0_ k_ ∨ w.heap.size ≤ k_)) (Kd.R_keptB ((Kd.R_apart' HO182.out (Kd.R_typed HO0.out) (by decide))) hkp (fun k_ hk_ hs_ => (hk_.2) hs_)) (fun k_ hk_ => hk_.1.1.1))
 have n2_ := za.mk (Kd.R_mono (ok' := fun k_ => (P0_ k_ ∨ w.heap.size ≤ k_)) ho0 (fun k_ hk_ => Or.elim hk_ (fun hs_ => (HO0.out.1 k_ (hs_).symm)) (fun hn_ => (.inr (Nat.le_trans (by first | exact HK.out.1 | exact (show zq w _ (fun k_ => P0_ k_) from by repeat (first | (with_reducible first | exact HK.out | apply zq.alloc | apply zq.drewN | apply zq.drew | refine zq.setCell ?_ (.inr GW179.out) _) | exact HK.out)).1) hn_)))))
 have n3_ := za.mk (zq.then_ (S := (fun k_ => P0_ k_)) (by repeat (first | (with_reducible first | exact HK.out | apply zq.alloc | apply zq.drewN | apply zq.drew | refine zq.setCell ?_ (.inr GW179.out) _) | exact HK.out)) hkp (fun k_ hs_ => (fun e_ => (HO0.out.1 k_ e_.symm)) hs_))
 have n4_ := za.mk (hb)
 clear BK179
 clear HO182
 clear HK
 clear HB
 clear HO0
 have BK179 := n0_
 have HO182 := n1_
 have HO185 := n2_
 have HK := n3_
 have HB := n4_
 clear n0_ n1_ n2_ n3_ n4_
 (try clear hb)
 (try clear hkp)
 (try clear ho0)
 obtain ⟨Ao12, co12, eo12⟩ := Kd.R_slice HO185.out
 (first | subst eo12 | (injection eo12 with f1_ f2_ f3_; have f4_ := f1_.symm; have f5_ := f3_.symm; clear f1_ f2_ f3_; subst f4_; subst f5_))
 refine hK.out _ _ ⟨(zg BK179.out 0).trans rfl, (zg BK179.out 1).trans rfl⟩ (fun hHeld => ?_)
 clear hK K
 refine yH (a' := ?_) ?_ ?_
 rotate_left
 ·show Act.put _ (some 9) _ = _
  simp only [Act.put, Vt, Vu, Vv, zx, zz]
  rfl
 refine xC (i := 7) (N := some 12) #[ZT,ZT,ZT,ZT,ZT,ZT,ZT,ZT,ZF] rfl rfl (y9 HT_.out (by kernel_rfl)) (by decide) (fun K hK => ?_)
 refine xa Try.func40 (by kernel_rfl) rfl #[.slice Ao12 t183.length co12, .slice A1_1 l1_1.length c1_1] (by rfl) rfl rfl (by (try simp only [Vw, List.map_cons, List.map_nil]); first | done | rfl | (simp only [List.length_drop, List.length_take]; rfl)) ?_
 with_reducible refine (yy.calls (fun k_ => some k_ = (.slice Ao12 t183.length co12 : Value).ownBlock) (.slice Ao12 t183.length co12) t183 _ _ l1_1 t186 w0 _ ?side1 ?side2 ?side3 ?side4 A4.out).mono ?_
 (case side1 => repeat (first | (with_reducible first | exact HB.out | apply zc | apply zb | apply zd | refine zh ?_ GE179.out) | exact HB.out))
 (case side2 => exact Kd.R_tight rfl HO185.out)
 (case side3 => exact Kd.C_kept_call HR1_1.out (by repeat (first | (with_reducible first | exact HK.out | apply zq.alloc | apply zq.drewN | apply zq.drew | refine zq.setCell ?_ (.inr GW179.out) _) | exact HK.out)) (fun k_ hs_ => (fun e_ => (HO185.out.1 k_ e_.symm)) hs_))
 (case side4 => exact HC1_1.out)
 rintro e w13 ⟨v187, rfl, ho0, hb, hkp⟩
 refine ⟨_, rfl, ?_⟩
 have n0_ := za.mk (y6 (by (with_reducible repeat (first | refine zt ?_ _ | refine zu ?_ | refine zr ?_ _)); exact BK179.out) hkp (fun hs_ => (fun e_ => (Kd.R_ne HO185.out BK179.out (by decide)) e_) hs_))
 have n1_ := za.mk (Kd.R_mono (ok' := fun k_ => (P0_ k_ ∨ w.heap.size ≤ k_)) (Kd.R_keptB ((Kd.R_apart' HO182.out (Kd.R_typed HO185.out) (by decide))) hkp (fun k_ hk_ hs_ => (hk_.2) hs_)) (fun k_ hk_ => hk_.1.1))
 have n2_ := za.mk (Kd.R_mono (ok' := fun k_ => (P0_ k_ ∨ w.heap.size ≤ k_)) ho0 (fun k_ hk_ => Or.elim hk_ (fun hs_ => (HO185.out.1 k_ (hs_).symm)) (fun hn_ => (.inr (Nat.le_trans (by first | exact HK.out.1 | exact (show zq w _ (fun k_ => P0_ k_) from by repeat (first | (with_reducible first | exact HK.out | apply zq.alloc | apply zq.drewN | apply zq.drew | refine zq.setCell ?_ (.inr GW179.out) _) | exact HK.out)).1) hn_)))))
 have n3_ := za.mk (zq.then_ (S := (fun k_ => P0_ k_)) (by repeat (first | (with_reducible first | exact HK.out | apply zq.alloc | apply zq.drewN | apply zq.drew | refine zq.setCell ?_ (.inr GW179.out) _) | exact HK.out)) hkp (fun k_ hs_ => (fun e_ => (HO185.out.1 k_ e_.symm)) hs_))
 have n4_ := za.mk (hb)
 clear BK179
 clear HO182
 clear HK
 clear HB
 clear HO185
 have BK179 := n0_
 have HO182 := n1_
 have HO188 := n2_
 have HK := n3_
 have HB := n4_
 clear n0_ n1_ n2_ n3_ n4_
 (try clear hb)
 (try clear hkp)
 (try clear ho0)
 refine hK.out _ _ ⟨(zg BK179.out 0).trans rfl, (zg BK179.out 1).trans rfl⟩ (fun hHeld => ?_)
 clear hK K
 refine yH (a' := ?_) ?_ ?_
 rotate_left
 ·show Act.put _ (some 12) _ = _
  simp only [Act.put, Vt, Vu, Vv, zx, zz]
  rfl
 refine zZ (i := 8) (N := some 4) (v := ?_) (a' := ?_) #[ZT,ZT,ZT,ZT,ZT,ZT,ZT,ZT,ZT] rfl rfl (zV HT_.out (by kernel_rfl)) (fun _ _ _ h => h) (Or.inl ⟨by rfl, ?_⟩) ?_ ?_
 rotate_left
 ·intro w'
  go_simp
  with_reducible rfl
 rotate_left
 ·simp only [Act.put, Vt, Vu, Vv, zx, zz]
  rfl
 refine q4 (qB HT_.out (by kernel_rfl)) ?_
 try go_wp2
 go_ret
 exact ⟨_, by first | rfl | (simp [zn, zo] <;> rfl) | (simp [*, zn, zo] <;> rfl), by (with_reducible repeat (first | apply Kd.R_alloc | apply Kd.R_drewN | apply Kd.R_drew)); exact HO188.out, by repeat (first | (with_reducible first | exact HB.out | apply zc | apply zb | apply zd | refine zh ?_ GE179.out) | exact HB.out), by repeat (first | (with_reducible first | exact HK.out | apply zq.alloc | apply zq.drewN | apply zq.drew | refine zq.setCell ?_ (.inr GW179.out) _) | exact HK.out)⟩
def yf.f (k : Nat) (l0 : List Int) (l1 : List S81) : Option (List Int) := (zD.f k l0 (([(l1.length : Int)] : List Int))).bind fun t => ja (fun acc x => yP.f k acc x.f0 x.f1) l1 t
theorem yf.calls (k : Nat) (P0_ : Nat → Prop) (u9000_ : Value) (l0 : List Int) (A1 : Option Addr) (c1 : Nat) (l1 : List (S81)) (r : List Int) (w0 w : World) (hB : Below w0.heap.size w0 w) (ho0 : Kd.R (Kd.int .u8) 5 w w0.heap.size P0_ u9000_ l0) (hr1 : ∀ W_, zq w W_ (fun k_ => P0_ k_) → Kd.C k81 W_ A1 l1.length l1) (hc1 : l1.length ≤ c1) (h : yf.f k l0 l1 = some r) :
  Calls Try.prog 44 #[u9000_, .slice A1 l1.length c1, .func (Fn.func 45) #[] #[]] w fun e w' => ∃ v0_ : Value, e = .returned (v0_) ∧ Kd.R (Kd.int .u8) 5 w' w0.heap.size (fun k_ => (P0_ k_ ∨ w.heap.size ≤ k_)) v0_ r ∧ Below w0.heap.size w0 w' ∧ zq w w' (fun k_ => P0_ k_) := by
 have HLEN := za.mk (hr1 w (zq.refl _ _)).2.1
 have HBLK : za (0 < l1.length → ∃ ad, A1 = some ad ∧ ad.block < w.heap.size ∧ ¬ P0_ ad.block) := ⟨fun hn => ZP hr1 hn (by decide)⟩
 have HO0 := za.mk (show Kd.R (Kd.int .u8) 5 w w0.heap.size (fun k_ => (P0_ k_ ∨ w.heap.size ≤ k_)) u9000_ l0 from Kd.R_mono ho0 (fun k_ hk => (.inl hk)))
 have HR1 := za.mk hr1
 have HC1 := za.mk hc1
 clear hr1 hc1 ho0
 have HK := za.mk (zq.refl w (fun k_ => P0_ k_))
 have HB := za.mk hB
 clear hB
 unfold yf.f at h
 rw [Vx] at h
 obtain ⟨t0, ht0, h⟩ := h
 have A4 := za.mk ht0
 have H' := za.mk h
 clear ht0 h
 obtain ⟨y391, hy391⟩ : ∃ y_ : List Int, y_ = (([(l1.length : Int)] : List Int)) := ⟨_, rfl⟩
 have Ny391 := za.mk hy391
 have A4 := za.mk (show zD.f k l0 y391 = some t0 by rw [hy391]; exact A4.out)
 clear hy391
 go_enter Try.func44, Try.ntmps44
 go_wp2_with (first | ((with_reducible refine zC (N := 12) rfl ?_); refine Kd.R_lit (Kd.int .i64) _ 3 ?hg (N := 12) ?hd (xs := ([(l1.length : Int)] : List Int)) (inner := [.int .i64 (l1.length : Int)]) (ok := fun _ => True) (okp := fun _ => True) ?hr ?hp (fun _ hk => hk) trivial (Below.refl _ _) (Nat.le_refl _) (by simp) ?_; (case hd => rfl); (case hg => rfl); (case hr => first | (go_simp; done) | (go_simp; rfl)); (case hp => exact (yh.one (show Kd.M (Kd.int .i64) _ _ _ (l1.length : Int) [.int .i64 (l1.length : Int)] from rfl) (yh.none _ _))); intro v392 w5 ho6 hb hg_ hnew_; clear hg_ hnew_; (first | rw [← Ny391.out] at ho6 | (simp only [Int.reduceToNat] at ho6; rw [← Ny391.out] at ho6)); have n0_ := za.mk (Kd.R_below HO0.out hb); have n1_ := za.mk (Kd.R_lower (Kd.R_newM (M := (fun k_ => (P0_ k_ ∨ w.heap.size ≤ k_))) ho6 HK.out.1 (fun k_ h_ => .inr h_)) HB.out.size); have n2_ := za.mk (zq.below (S := (fun k_ => P0_ k_)) (by repeat (first | (with_reducible first | exact HK.out | apply zq.alloc | apply zq.drewN | apply zq.drew) | exact HK.out)) hb); have n3_ := za.mk (zi (by repeat (first | (with_reducible first | exact HB.out | apply zc | apply zb | apply zd) | exact HB.out)) hb); clear HO0; clear HK; clear HB; have HO0 := n0_; have HO393 := n1_; have HK := n2_; have HB := n3_; clear n0_ n1_ n2_ n3_; clear hb ho6; obtain ⟨Ao7, co7, eo7⟩ := Kd.R_slice HO0.out; subst eo7; obtain ⟨Ao8, co8, eo8⟩ := Kd.R_slice HO393.out; subst eo8) | ((with_reducible refine zL (f := 39) rfl ?_); refine z8 (some 13) rfl rfl Try.func39 (by kernel_rfl) rfl #[.slice Ao7 l0.length co7, .slice Ao8 y391.length co8] rfl (by (try simp only [Vw, List.map_cons, List.map_nil]); first | done | rfl) ?_; (with_reducible refine (zD.calls k (fun k_ => some k_ = (.slice Ao7 l0.length co7 : Value).ownBlock) (.slice Ao7 l0.length co7) l0 _ _ y391 t0 w0 _ ?side1 ?side2 ?side3 ?side4 A4.out).mono ?_); (case side1 => exact HB.out); (case side2 => exact Kd.R_tight rfl HO0.out); (case side3 => exact Kd.C_kept_own ((Kd.R_apart' HO393.out (Kd.R_typed HO0.out) (by decide))) (fun k_ hk_ hs_ => (hk_.2) hs_)); (case side4 => exact (Kd.R_reads' HO393.out).2.1); rintro e w9 ⟨v395, rfl, ho0, hb, hkp⟩; refine ⟨_, rfl, ?_⟩; have n1_ := za.mk (Kd.R_mono (ok' := (fun k_ => (P0_ k_ ∨ w.heap.size ≤ k_))) ho0 (fun k_ hk_ => Or.elim hk_ (fun hs_ => (HO0.out.1 k_ (hs_).symm)) (fun hn_ => (.inr (Nat.le_trans HK.out.1 hn_))))); have n2_ := za.mk (zq.then_ (S := (fun k_ => P0_ k_)) HK.out hkp (fun k_ hs_ => (fun e_ => (HO0.out.1 k_ e_.symm)) hs_)); have n3_ := za.mk (hb); clear HO393; clear HK; clear HB; clear HO0; have HO396 := n1_; have HK := n2_; have HB := n3_; clear n1_ n2_ n3_; (try clear hb); (try clear hkp); (try clear ho0)))
 go_loopg [0, 16] l1.length (fun kq v0 v16 w' => ∃ (xs : List Int) (i : Nat), v16 = .int .i64 i ∧ za (i + kq = l1.length) ∧ za (ja (fun acc x => yP.f k acc x.f0 x.f1) (l1.drop i) xs = some r) ∧ za (Kd.R (Kd.int .u8) 5 w' w0.heap.size (fun k_ => (P0_ k_ ∨ w.heap.size ≤ k_)) v0 xs) ∧ za (zq w w' (fun k_ => P0_ k_)) ∧ za (Below w0.heap.size w0 w'))
 case atStart => exact ⟨t0, 0, rfl, ⟨by simp⟩, ⟨by rw [List.drop_zero]; exact H'.out⟩, HO396, HK, HB⟩
 case round =>
  clear H'
  obtain ⟨xs, i, rfl, HI, HA, HO_0, HK, HB⟩ := hrel
  by_cases hlt : i < l1.length
  ·have ho := HA.out
   rw [List.drop_eq_getElem_cons hlt, ja, Vx] at ho
   obtain ⟨t1, ht1, ho⟩ := ho
   have A13 := za.mk ht1
   have H2 := za.mk ho
   clear ht1 ho HA
   have hq : (i : Int).toNat = i := Int.toNat_natCast i
   have hrd : yx l1 (i : Int) = l1[i] := by simp [yx, hlt]
   obtain ⟨ad, Ai, ci, ea, hx0, hx1, hl, hC⟩ := ql (HR1.out _ HK.out) (i : Int) (by omega) (by omega)
   rw [hrd, hq] at hx0 hx1
   rw [hrd] at hl
   obtain ⟨ad2, ea2, hblt, hnp⟩ := HBLK.out (by omega)
   cases ea.symm.trans ea2
   have HIN : za (∀ (g_ : Nat → Prop) (W_ : World), (∀ k_, g_ k_ → (P0_ k_ ∨ w.heap.size ≤ k_)) → zq wr W_ g_ → Kd.C (Kd.int .i64) W_ Ai l1[i].f1.length l1[i].f1) := ⟨fun g_ W_ hg hk => by
    obtain ⟨ad', Ai', ci', ea', hx0', hx1', hl', hC'⟩ := ql (HR1.out W_ (HK.out.then_ hk (fun k_ h_ => hg k_ h_))) (i : Int) (by omega) (by omega)
    rw [hrd, hq] at hx0' hx1'
    cases ea.symm.trans ea'
    have hne : ¬ g_ ad.block := fun h_ => Or.elim (hg _ h_) hnp (fun h2 => by omega)
    have hq2 := YK hx1 hk (by first | exact hne | (rw [zW]; exact hne) | (show ¬ g_ (Addr.add _ _).block; rw [zW]; exact hne))
    rw [hx1'] at hq2
    injection hq2 with hq2
    injection hq2 with hq2 _ _
    subst hq2
    rw [hrd] at hC'
    exact hC'⟩
   have HL := za.mk hl
   clear hl hC HBLK
   cases ea
   clear ea2
   obtain ⟨x, hx⟩ : ∃ x, x = l1[i] := ⟨_, rfl⟩
   rw [← hx] at A13 HL HIN hx0 hx1
   clear hx hrd hq
   go_wp2_with (first | ((with_reducible refine zC (N := 8) rfl ?_); refine zF ?hg (N := 8) ?hd (cs := #[.int .i64 0, .slice none 0 0]) (t := 81) ?hr ?_; (case hd => rfl); (case hg => rfl); (case hr => first | (go_simp; done) | (go_simp; rfl)); intro gb hg w14 hbox hb; have n0_ := za.mk (Kd.R_below HO_0.out hb); have n1_ := za.mk (zq.below (S := (fun k_ => P0_ k_)) HK.out hb); have n2_ := za.mk (zi HB.out hb); have n3_ := za.mk hbox; have n4_ := za.mk (by rw [hg]; exact HK.out.1 : w.heap.size ≤ gb); have n5_ := za.mk (by rw [hg]; exact HB.out.size : w0.heap.size ≤ gb); have n6_ := za.mk (fun (g_ : Nat → Prop) (W_ : World) (hg_ : ∀ k_, g_ k_ → (P0_ k_ ∨ w.heap.size ≤ k_)) (hk_ : zq w14 W_ g_) => HIN.out g_ W_ hg_ ((zq.of_below hb g_).then_ hk_ (fun _ h_ => .inl h_))); clear HO_0; clear HK; clear HB; clear HIN; have HO_0 := n0_; have HK := n1_; have HB := n2_; have BK := n3_; have GW := n4_; have GE := n5_; have HIN := n6_; clear n0_ n1_ n2_ n3_ n4_ n5_ n6_; clear hb hbox hg; have hcz_0 : w14.cell? ⟨gb, 0, none⟩ = some (.int .i64 0) := (zg BK.out 0).trans rfl; have hfz_0 := ze BK.out 0; have hcz_1 : w14.cell? ⟨gb, 1, none⟩ = some (.slice none 0 0) := (zg BK.out 1).trans rfl; have hfz_1 := ze BK.out 1) | ((with_reducible refine yQ (t := 81) (p := 8) rfl ?_); refine yJ (t := 81) (p := 8) (v := ?vo_w16) (w1 := ((w14.setCell ⟨gb, 0, none⟩ (.int .i64 x.f0)).setCell ⟨gb, 1, none⟩ (.slice Ai x.f1.length ci))) ?hg ?ho ?hn ?hr ?_; (case ho => rfl); (case hg => rfl); (case hn => rfl); (case hr => first | (go_simp; done) | (go_simp; rfl)); intro w16 hw; have n0_ : za (Kd.R (Kd.int .u8) 5 w16 w0.heap.size (fun k_ => (P0_ k_ ∨ w.heap.size ≤ k_)) u0 xs) := ⟨(by rw [hw]; exact (Kd.R_mono (Kd.R_far (p := ⟨gb, 1, none⟩) (Kd.R_far (p := ⟨gb, 0, none⟩) (Kd.R_types HO_0.out BK.out (by decide)) (fun _ hk => hk.2) (.int .i64 x.f0)) (fun _ hk => hk.2) (.slice Ai x.f1.length ci)) (fun _ hk => hk.1)))⟩; have n1_ : za (w16.heap[gb]? = some (.cells #[.int .i64 x.f0, .slice Ai x.f1.length ci] 81 (0, 0))) := ⟨(by rw [hw]; exact (zJ (cs' := #[.int .i64 x.f0, .slice Ai x.f1.length ci]) (zJ (cs' := #[.int .i64 x.f0, .slice none 0 0]) (BK.out) 0 _ rfl) 1 _ rfl))⟩; have n2_ : za (zq w w16 (fun k_ => P0_ k_)) := ⟨(by rw [hw]; exact (zq.setCell (p := ⟨gb, 1, none⟩) (zq.setCell (p := ⟨gb, 0, none⟩) (HK.out) (.inr GW.out) _) (.inr GW.out) _))⟩; have n3_ : za (Below w0.heap.size w0 w16) := ⟨(by rw [hw]; exact (zh (g := gb) (j := 1) (zh (g := gb) (j := 0) (HB.out) GE.out) GE.out))⟩; have n4_ : za (zq w14 w16 (fun k_ => k_ = gb)) := ⟨(by rw [hw]; exact (zq.setCell (p := ⟨gb, 1, none⟩) (zq.setCell (p := ⟨gb, 0, none⟩) (zq.refl w14 (fun k_ => k_ = gb)) (.inl rfl) _) (.inl rfl) _))⟩; have n5_ := za.mk (fun (g_ : Nat → Prop) (W_ : World) (hg_ : ∀ k_, g_ k_ → (P0_ k_ ∨ w.heap.size ≤ k_)) (hk_ : zq w16 W_ g_) => HIN.out (fun k_ => k_ = gb ∨ g_ k_) W_ (fun k_ h_ => h_.elim (fun e_ => .inr (by rw [e_]; exact GW.out)) (hg_ k_)) ((n4_.out.mono (fun _ h_ => .inl h_)).then_ hk_ (fun _ h_ => .inl (.inr h_)))); clear hw; clear HO_0; clear BK; clear HK; clear HB; clear HIN; have HO_0 := n0_; have BK := n1_; have HK := n2_; have HB := n3_; have HIN := n5_; clear n0_ n1_ n2_ n3_ n4_ n5_; clear hcz_0 hfz_0; clear hcz_1 hfz_1; have hcz_0 : w16.cell? ⟨gb, 0, none⟩ = some (.int .i64 x.f0) := (zg BK.out 0).trans rfl; have hfz_0 := ze BK.out 0; have hcz_1 : w16.cell? ⟨gb, 1, none⟩ = some (.slice Ai x.f1.length ci) := (zg BK.out 1).trans rfl; have hfz_1 := ze BK.out 1; obtain ⟨Ao18, co18, eo18⟩ := Kd.R_slice HO_0.out; subst eo18) | ((with_reducible refine zC (N := 23) rfl ?_); refine qo (some 23) rfl rfl Try.func45 (by kernel_rfl) rfl #[.slice Ao18 xs.length co18, .agg #[.int .i64 x.f0, .slice Ai x.f1.length ci]] rfl (by (try simp only [Vw, List.map_cons, List.map_nil]); first | done | rfl) ?_; (with_reducible refine (yP.calls k (fun k_ => some k_ = (.slice Ao18 xs.length co18 : Value).ownBlock) (.slice Ao18 xs.length co18) xs x.f0 Ai ci x.f1 t1 w0 _ ?side1 ?side2 ?side3 HL.out A13.out).mono ?_); (case side1 => exact HB.out); (case side2 => exact Kd.R_tight rfl HO_0.out); (case side3 => exact fun W_ hk_ => HIN.out _ W_ (fun k_ e_ => HO_0.out.1 k_ e_.symm) hk_); rintro e w19 ⟨v400, rfl, ho0, hb, hkp⟩; refine ⟨_, rfl, ?_⟩; have n1_ := za.mk (Kd.R_mono (ok' := (fun k_ => (P0_ k_ ∨ w.heap.size ≤ k_))) ho0 (fun k_ hk_ => Or.elim hk_ (fun hs_ => (HO_0.out.1 k_ (hs_).symm)) (fun hn_ => (.inr (Nat.le_trans HK.out.1 hn_))))); have n2_ := za.mk (zq.then_ (S := (fun k_ => P0_ k_)) HK.out hkp (fun k_ hs_ => (fun e_ => (HO_0.out.1 k_ e_.symm)) hs_)); have n3_ := za.mk (hb); clear BK; clear HK; clear HB; clear HO_0; have HO401 := n1_; have HK := n2_; have HB := n3_; clear n1_ n2_ n3_; (try clear hb); (try clear hkp); (try clear ho0)))
   go_roundg (l1.length - (i + 1))
   case measure => have := HI.out; omega
   case rel => exact ⟨t1, i + 1, (by have h_ : wrap64 ((i : Int) + 1) = ((i + 1 : Nat) : Int) := yU (by omega) (by have := HLEN.out; omega); first | (rw [h_]) | (simp only [h_])), ⟨by omega⟩, H2, HO401, HK, HB⟩
  ·obtain rfl : i = l1.length := by have := HI.out; omega
   have ho := HA.out
   rw [List.drop_length, ja] at ho
   obtain rfl := Option.some.inj ho
   go_wp2
   go_ret
   exact ⟨_, rfl, HO_0.out, HB.out, HK.out⟩
def yn.f (k : Nat) (a0_0 : Int) (a0_1 : Int) (a0_2 : ByteArray) (a0_3 : Int) (l0_4 : List (S81)) : Option (ByteArray × Int) := (zD.f k ([] : List Int) (([a0_0, a0_1] : List Int))).bind fun t193 => ((yR.f t193 a0_2).bind fun t196 => ((zD.f k t196 (([a0_3] : List Int))).bind fun t202 => ((yT.f k a0_0 a0_1 a0_2 a0_3 l0_4).bind fun t205 => ((yf.f k t202 l0_4).bind fun t206 => ((yi.f t205 t206).bind fun bt209 => (some (bt209.1, bt209.2)))))))
def yn.T1 : Bool × List (List Nat × List Nat) := (true, [([], []), ([0], [0]), ([], []), ([2], [2]), ([1, 3], [1, 3]), ([4], [4]), ([], []), ([6], [6]), ([5, 7, 5], [5, 7]), ([], []), ([9], [9]), ([10], [10]), ([8, 11, 8], [8, 11]), ([12, 12, 0, 1, 2, 3, 4, 5, 6, 7, 8, 9, 10, 11, 12], [12])])
def yn.B1 : List Nat := [0, 1, 0, 4, 15, 31, 0, 64, 255, 0, 512, 1536, 4095, 8191]
theorem yn.tab1 : xJ .any (vm Try.f8 1) = yn.T1 := by kernel_rfl
theorem yn.bits1 : qe yn.T1.2 yn.B1 = true := by kernel_rfl
def yn.T2 : Bool × List (List Nat × List Nat) := (true, [([], []), ([0], [0]), ([], []), ([], []), ([3], [3]), ([2, 4, 1], [2, 4]), ([1, 5, 5], [1, 5]), ([6], [6]), ([6], [6]), ([7, 6, 0, 1, 2, 3, 4, 5, 6, 7, 8], [7]), ([8, 9, 0, 1, 2, 3, 4, 5, 6, 7, 8, 9], [8])])
def yn.B2 : List Nat := [0, 1, 0, 0, 8, 31, 63, 127, 127, 511, 1023]
theorem yn.tab2 : xJ .any (vm Try.f8 2) = yn.T2 := by kernel_rfl
theorem yn.bits2 : qe yn.T2.2 yn.B2 = true := by kernel_rfl
theorem yn.calls (k : Nat) (a0_0 : Int) (a0_1 : Int) (a0_2 : ByteArray) (a0_3 : Int) (A0_4 : Option Addr) (c0_4 : Nat) (l0_4 : List (S81)) (r1 : ByteArray) (r2 : Int) (w : World) (hr0_4 : Kd.C k81 w A0_4 l0_4.length l0_4) (hc0_4 : l0_4.length ≤ c0_4) (h : yn.f k a0_0 a0_1 a0_2 a0_3 l0_4 = some (r1, r2)) :
  Calls Try.prog 8 #[.agg #[.int .i64 a0_0, .int .i64 a0_1, .string a0_2, .int .i64 a0_3, .slice A0_4 l0_4.length c0_4]] w fun e w' => e = .returned (.tuple #[.string r1, .int .i64 r2]) ∧ Below w.heap.size w w' := by
 have hu27 := Try.underlying27
 have HR0_4 := za.mk hr0_4
 have HC0_4 := za.mk hc0_4
 clear hr0_4 hc0_4
 have HB := za.mk (Below.refl w.heap.size w)
 have H : ((zD.f k ([] : List Int) (([a0_0, a0_1] : List Int))).bind fun t193 => ((yR.f t193 a0_2).bind fun t196 => ((zD.f k t196 (([a0_3] : List Int))).bind fun t202 => ((yT.f k a0_0 a0_1 a0_2 a0_3 l0_4).bind fun t205 => ((yf.f k t202 l0_4).bind fun t206 => ((yi.f t205 t206).bind fun bt209 => (some (bt209.1, bt209.2)))))))) = some (r1, r2) := h
 clear h
 obtain ⟨y190, hy190⟩ : ∃ y_ : List Int, y_ = (([a0_0, a0_1] : List Int)) := ⟨_, rfl⟩
 replace H : ((zD.f k ([] : List Int) y190).bind fun t193 => ((yR.f t193 a0_2).bind fun t196 => ((zD.f k t196 (([a0_3] : List Int))).bind fun t202 => ((yT.f k a0_0 a0_1 a0_2 a0_3 l0_4).bind fun t205 => ((yf.f k t202 l0_4).bind fun t206 => ((yi.f t205 t206).bind fun bt209 => (some (bt209.1, bt209.2)))))))) = some (r1, r2) := by first | (rw [hy190]; with_reducible exact H) | (have H2_ := (Option.bind_some _ _).symm.trans H; rw [hy190]; with_reducible exact H2_) | (have H2_ := (Option.bind_some _ _).symm.trans H; with_reducible exact H2_) | with_reducible exact H | (rw [hy190]; exact H) | exact H
 have Ny190 := za.mk hy190
 clear hy190
 replace H := Vx.mp H
 obtain ⟨t193, A20, H⟩ := H
 replace H : ((yR.f t193 a0_2).bind fun t196 => ((zD.f k t196 (([a0_3] : List Int))).bind fun t202 => ((yT.f k a0_0 a0_1 a0_2 a0_3 l0_4).bind fun t205 => ((yf.f k t202 l0_4).bind fun t206 => ((yi.f t205 t206).bind fun bt209 => (some (bt209.1, bt209.2))))))) = some (r1, r2) := H
 have A2 := za.mk A20
 clear A20
 replace H := Vx.mp H
 obtain ⟨t196, A30, H⟩ := H
 replace H : ((zD.f k t196 (([a0_3] : List Int))).bind fun t202 => ((yT.f k a0_0 a0_1 a0_2 a0_3 l0_4).bind fun t205 => ((yf.f k t202 l0_4).bind fun t206 => ((yi.f t205 t206).bind fun bt209 => (some (bt209.1, bt209.2)))))) = some (r1, r2) := H
 have A3 := za.mk A30
 clear A30
 obtain ⟨y199, hy199⟩ : ∃ y_ : List Int, y_ = (([a0_3] : List Int)) := ⟨_, rfl⟩
 replace H : ((zD.f k t196 y199).bind fun t202 => ((yT.f k a0_0 a0_1 a0_2 a0_3 l0_4).bind fun t205 => ((yf.f k t202 l0_4).bind fun t206 => ((yi.f t205 t206).bind fun bt209 => (some (bt209.1, bt209.2)))))) = some (r1, r2) := by first | (rw [hy199]; with_reducible exact H) | (have H2_ := (Option.bind_some _ _).symm.trans H; rw [hy199]; with_reducible exact H2_) | (have H2_ := (Option.bind_some _ _).symm.trans H; with_reducible exact H2_) | with_reducible exact H | (rw [hy199]; exact H) | exact H
 have Ny199 := za.mk hy199
 clear hy199
 replace H := Vx.mp H
 obtain ⟨t202, A40, H⟩ := H
 replace H : ((yT.f k a0_0 a0_1 a0_2 a0_3 l0_4).bind fun t205 => ((yf.f k t202 l0_4).bind fun t206 => ((yi.f t205 t206).bind fun bt209 => (some (bt209.1, bt209.2))))) = some (r1, r2) := H
 have A4 := za.mk A40
 clear A40
 replace H := Vx.mp H
 obtain ⟨t205, A50, H⟩ := H
 replace H : ((yf.f k t202 l0_4).bind fun t206 => ((yi.f t205 t206).bind fun bt209 => (some (bt209.1, bt209.2)))) = some (r1, r2) := H
 have A5 := za.mk A50
 clear A50
 replace H := Vx.mp H
 obtain ⟨t206, A60, H⟩ := H
 replace H : ((yi.f t205 t206).bind fun bt209 => (some (bt209.1, bt209.2))) = some (r1, r2) := H
 have A6 := za.mk A60
 clear A60
 replace H := Vx.mp H
 obtain ⟨⟨t209, t210⟩, A70, H⟩ := H
 replace H : (some (t209, t210)) = some (r1, r2) := H
 have A7 := za.mk A70
 clear A70
 simp only [Option.some.injEq, Prod.mk.injEq] at H
 obtain ⟨rfl, rfl⟩ := H
 go_enter Try.func8, Try.ntmps8
 try go_wp2_with (first | ((with_reducible refine zC (N := 1) rfl ?_); refine zF ?hg (N := 1) ?hd (cs := #[.int .i64 a0_0, .int .i64 a0_1, .string a0_2, .int .i64 a0_3, .slice A0_4 l0_4.length c0_4]) (t := 27) ?hr ?_; (case hd => rfl); (case hg => rfl); (case hr => first | (go_simp; done) | (go_simp; rfl)); intro gb189 hg w8 hbox hb; have n0_ := za.mk (zi (by repeat (first | (with_reducible first | exact HB.out | apply zc | apply zb | apply zd) | exact HB.out)) hb); have n1_ := za.mk (hbox); have n2_ := za.mk ((by rw [hg]; exact (zp (by repeat (first | (with_reducible first | exact HB.out | apply zc | apply zb | apply zd) | exact HB.out))) : w.heap.size ≤ gb189)); have n3_ := za.mk ((by rw [hg]; exact (zp (by repeat (first | (with_reducible first | exact HB.out | apply zc | apply zb | apply zd) | exact HB.out))) : w.heap.size ≤ gb189)); clear HB; have HB := n0_; have BK189 := n1_; have GW189 := n2_; have GE189 := n3_; clear n0_ n1_ n2_ n3_; clear hb hbox hg))
 have n0_ := za.mk (zu BK189.out)
 have n1_ := za.mk (zd HB.out)
 clear BK189
 clear HB
 have BK189 := n0_
 have HB := n1_
 clear n0_ n1_
 refine qF (n := 14) (S := fun w' => w'.cell? ⟨gb189, 0, none⟩ = some (.int .i64 a0_0) ∧ w'.cell? ⟨gb189, 1, none⟩ = some (.int .i64 a0_1) ∧ w'.cell? ⟨gb189, 2, none⟩ = some (.string a0_2) ∧ w'.cell? ⟨gb189, 3, none⟩ = some (.int .i64 a0_3) ∧ w'.cell? ⟨gb189, 4, none⟩ = some (.slice A0_4 l0_4.length c0_4)) (ds := []) #[ZF,ZF,ZF,ZF,ZF,ZF,ZF,ZF,ZF,ZF,ZF,ZF,ZF,ZF] (by kernel_rfl) rfl rfl ⟨(zg BK189.out 0).trans rfl, (zg BK189.out 1).trans rfl, (zg BK189.out 2).trans rfl, (zg BK189.out 3).trans rfl, (zg BK189.out 4).trans rfl⟩ (fun hHeld => ?_); refine xV yn.tab1 yn.bits1 (fun HT_ HW_ => ?_)
 generalize w8.drew = w9 at BK189 HB hHeld ⊢
 refine zZ (i := 0) (N := some 5) (v := ?_) (a' := ?_) #[ZT,ZF,ZF,ZF,ZF,ZF,ZF,ZF,ZF,ZF,ZF,ZF,ZF,ZF] rfl rfl (zV HT_.out (by kernel_rfl)) (fun _ _ _ h => h) (Or.inl ⟨by rfl, ?_⟩) ?_ ?_
 rotate_left
 ·intro w'
  go_simp
  with_reducible rfl
 rotate_left
 ·simp only [Act.put, Vt, Vu, Vv, zx, zz]
  rfl
 refine zZ (i := 2) (N := some 7) (v := ?_) (a' := ?_) #[ZT,ZF,ZT,ZF,ZF,ZF,ZF,ZF,ZF,ZF,ZF,ZF,ZF,ZF] rfl rfl (zV HT_.out (by kernel_rfl)) (fun _ _ _ h => h) (Or.inl ⟨by rfl, ?_⟩) ?_ ?_
 rotate_left
 ·intro w'
  go_simp
  with_reducible rfl
 rotate_left
 ·simp only [Act.put, Vt, Vu, Vv, zx, zz]
  rfl
 refine zZ (i := 6) (N := some 11) (v := ?_) (a' := ?_) #[ZT,ZF,ZT,ZF,ZF,ZF,ZT,ZF,ZF,ZF,ZF,ZF,ZF,ZF] rfl rfl (zV HT_.out (by kernel_rfl)) (fun _ _ _ h => h) (Or.inl ⟨by rfl, ?_⟩) ?_ ?_
 rotate_left
 ·intro w'
  go_simp
  with_reducible rfl
 rotate_left
 ·simp only [Act.put, Vt, Vu, Vv, zx, zz]
  rfl
 refine zZ (i := 9) (N := some 14) (v := ?_) (a' := ?_) #[ZT,ZF,ZT,ZF,ZF,ZF,ZT,ZF,ZF,ZT,ZF,ZF,ZF,ZF] rfl rfl (zV HT_.out (by kernel_rfl)) (fun _ _ _ h => h) (Or.inl ⟨by rfl, ?_⟩) ?_ ?_
 rotate_left
 ·intro w'
  go_simp
  with_reducible rfl
 rotate_left
 ·simp only [Act.put, Vt, Vu, Vv, zx, zz]
  rfl
 refine take_ (i := 1) (N := some 6) (v := ?_) (a' := ?_) #[ZT,ZT,ZT,ZF,ZF,ZF,ZT,ZF,ZF,ZT,ZF,ZF,ZF,ZF] rfl rfl (yN HT_.out HW_.out (by kernel_rfl)) (fun _ _ _ h => h) (Or.inl ⟨by rfl, ?_⟩) hHeld ?_ ?_
 rotate_left
 ·rintro w' ⟨s0, s1, s2, s3, s4⟩
  go_simp
  with_reducible rfl
 rotate_left
 ·simp only [Act.put, Vt, Vu, Vv, zx, zz]
  rfl
 refine take_ (i := 3) (N := some 8) (v := ?_) (a' := ?_) #[ZT,ZT,ZT,ZT,ZF,ZF,ZT,ZF,ZF,ZT,ZF,ZF,ZF,ZF] rfl rfl (yN HT_.out HW_.out (by kernel_rfl)) (fun _ _ _ h => h) (Or.inl ⟨by rfl, ?_⟩) hHeld ?_ ?_
 rotate_left
 ·rintro w' ⟨s0, s1, s2, s3, s4⟩
  go_simp
  with_reducible rfl
 rotate_left
 ·simp only [Act.put, Vt, Vu, Vv, zx, zz]
  rfl
 refine take_ (i := 7) (N := some 12) (v := ?_) (a' := ?_) #[ZT,ZT,ZT,ZT,ZF,ZF,ZT,ZT,ZF,ZT,ZF,ZF,ZF,ZF] rfl rfl (yN HT_.out HW_.out (by kernel_rfl)) (fun _ _ _ h => h) (Or.inl ⟨by rfl, ?_⟩) hHeld ?_ ?_
 rotate_left
 ·rintro w' ⟨s0, s1, s2, s3, s4⟩
  go_simp
  with_reducible rfl
 rotate_left
 ·simp only [Act.put, Vt, Vu, Vv, zx, zz]
  rfl
 refine take_ (i := 10) (N := some 15) (v := ?_) (a' := ?_) #[ZT,ZT,ZT,ZT,ZF,ZF,ZT,ZT,ZF,ZT,ZT,ZF,ZF,ZF] rfl rfl (yN HT_.out HW_.out (by kernel_rfl)) (fun _ _ _ h => h) (Or.inl ⟨by rfl, ?_⟩) hHeld ?_ ?_
 rotate_left
 ·rintro w' ⟨s0, s1, s2, s3, s4⟩
  go_simp
  with_reducible rfl
 rotate_left
 ·simp only [Act.put, Vt, Vu, Vv, zx, zz]
  rfl
 refine X7 (σ := Value × Value × Value × Value) 2 #[ZT,ZT,ZT,ZT,ZT,ZT,ZT,ZT,ZT,ZT,ZT,ZT,ZF,ZF] (fun s_ => [(9, s_.1), (10, s_.2.1), (13, s_.2.2.1), (16, s_.2.2.2)]) (fun s_ w' => (w'.cell? ⟨gb189, 0, none⟩ = some (.int .i64 a0_0) ∧ w'.cell? ⟨gb189, 1, none⟩ = some (.int .i64 a0_1) ∧ w'.cell? ⟨gb189, 2, none⟩ = some (.string a0_2) ∧ w'.cell? ⟨gb189, 3, none⟩ = some (.int .i64 a0_3) ∧ w'.cell? ⟨gb189, 4, none⟩ = some (.slice A0_4 l0_4.length c0_4)) ∧ (Kd.R (Kd.int .i64) 3 w' w.heap.size (fun k_ => some k_ ≠ (s_.2.2.2 : Value).ownBlock) s_.1 y190) ∧ (Kd.R (Kd.int .u8) 5 w' w.heap.size (fun _ => True) s_.2.2.1 t196) ∧ (Kd.R (Kd.int .i64) 3 w' w.heap.size (fun k_ => some k_ ≠ (s_.1 : Value).ownBlock) s_.2.2.2 y199) ∧ (w'.heap[gb189]? = some (.cells #[.int .i64 a0_0, .int .i64 a0_1, .string a0_2, .int .i64 a0_3, .slice A0_4 l0_4.length c0_4] 27 (0, 0))) ∧ (Below w.heap.size w w')) ?_ ?_
 rotate_left
 ·intro hCont
  refine Xq (i := 4) (j := 11) (Ni := some 9) (Nj := some 16) #[ZT,ZT,ZT,ZT,ZT,ZF,ZT,ZT,ZF,ZT,ZT,ZF,ZF,ZF] #[ZT,ZT,ZT,ZT,ZF,ZF,ZT,ZT,ZF,ZT,ZT,ZT,ZF,ZF] rfl rfl rfl rfl (vZ HT_.out (by kernel_rfl)) (by decide) (by decide) (fun K hK => ?_) (fun K hK => ?_)
  ·skip
   refine Kd.R_lit_step (Kd.int .i64) _ 3 ?hg (N := 9) ?hd (xs := ([a0_0, a0_1] : List Int)) (inner := [.int .i64 a0_0, .int .i64 a0_1]) (ok := fun _ => True) (okp := fun _ => True) ?hr ?hp (fun _ hk => hk) trivial (Below.refl _ _) (Nat.le_refl _) (by simp) ?_; (case hd => rfl); (case hg => rfl); (case hr => first | (go_simp; done) | (go_simp; rfl)); (case hp => exact (yh.one (show Kd.M (Kd.int .i64) _ _ _ a0_0 [.int .i64 a0_0] from rfl) (yh.one (show Kd.M (Kd.int .i64) _ _ _ a0_1 [.int .i64 a0_1] from rfl) (yh.none _ _))))
   intro v191 w10 ho11 hb hg_ hnew_
   clear hg_ hnew_
   (first | rw [← Ny190.out] at ho11 | (simp only [Int.reduceToNat] at ho11; rw [← Ny190.out] at ho11))
   have n0_ := za.mk (Kd.R_lower ho11 (zp (by repeat (first | (with_reducible first | exact HB.out | apply zc | apply zb | apply zd | refine zh ?_ GE189.out) | exact HB.out))))
   have n1_ := za.mk (zH (g := gb189) (o := .cells #[.int .i64 a0_0, .int .i64 a0_1, .string a0_2, .int .i64 a0_3, .slice A0_4 l0_4.length c0_4] 27 (0, 0)) (by (with_reducible repeat (first | refine zt ?_ _ | refine zu ?_ | refine zr ?_ _)); exact BK189.out) hb)
   have n2_ := za.mk (zi (by repeat (first | (with_reducible first | exact HB.out | apply zc | apply zb | apply zd | refine zh ?_ GE189.out) | exact HB.out)) hb)
   clear BK189
   clear HB
   have HO192 := n0_
   have BK189 := n1_
   have HB := n2_
   clear n0_ n1_ n2_
   clear hb ho11
   obtain ⟨Ao12, co12, eo12⟩ := Kd.R_slice HO192.out
   (first | subst eo12 | (injection eo12 with f1_ f2_ f3_; have f4_ := f1_.symm; have f5_ := f3_.symm; clear f1_ f2_ f3_; subst f4_; subst f5_))
   refine hK.out _ _ ⟨(zg BK189.out 0).trans rfl, (zg BK189.out 1).trans rfl, (zg BK189.out 2).trans rfl, (zg BK189.out 3).trans rfl, (zg BK189.out 4).trans rfl⟩ (fun hHeld => ?_)
   clear hK K
   refine yH (a' := ?_) ?_ ?_
   rotate_left
   ·show Act.put _ (some 9) _ = _
    simp only [Act.put, Vt, Vu, Vv, zx, zz]
    rfl
   refine Xq (i := 5) (j := 11) (Ni := some 10) (Nj := some 16) #[ZT,ZT,ZT,ZT,ZT,ZT,ZT,ZT,ZF,ZT,ZT,ZF,ZF,ZF] #[ZT,ZT,ZT,ZT,ZT,ZF,ZT,ZT,ZF,ZT,ZT,ZT,ZF,ZF] rfl rfl rfl rfl (vZ HT_.out (by kernel_rfl)) (by decide) (by decide) (fun K hK => ?_) (fun K hK => ?_)
   ·skip
    refine xa Try.func39 (by kernel_rfl) rfl #[.slice none 0 0, .slice Ao12 y190.length co12] (by rfl) rfl rfl (by (try simp only [Vw, List.map_cons, List.map_nil]); first | done | rfl | (simp only [List.length_drop, List.length_take]; rfl)) ?_
    refine (zD.calls k (fun k_ => some k_ = (.slice none 0 0 : Value).ownBlock) (.slice none 0 0) ([] : List Int) _ _ y190 t193 w _ ?side1 ?side2 ?side3 ?side4 A2.out).mono ?_
    (case side1 => repeat (first | (with_reducible first | exact HB.out | apply zc | apply zb | apply zd | refine zh ?_ GE189.out) | exact HB.out))
    (case side2 => exact Kd.R_nil _ _ _ _ _)
    (case side3 => exact Kd.C_kept_own (HO192.out) (fun k_ hk_ hs_ => (fun e_ => by simp [Value.ownBlock] at e_) hs_))
    (case side4 => exact (Kd.R_reads' HO192.out).2.1)
    rintro e w13 ⟨v194, rfl, ho0, hb, hkp⟩
    refine ⟨_, rfl, ?_⟩
    have n0_ := za.mk (y6 (by (with_reducible repeat (first | refine zt ?_ _ | refine zu ?_ | refine zr ?_ _)); exact BK189.out) hkp (fun hs_ => (fun e_ => by simp [Value.ownBlock] at e_) hs_))
    have n1_ := za.mk (Kd.R_mono (ok' := fun k_ => True) (Kd.R_keptB (HO192.out) hkp (fun k_ hk_ hs_ => (fun e_ => by simp [Value.ownBlock] at e_) hs_)) (fun k_ hk_ => trivial))
    have n2_ := za.mk (Kd.R_mono (ok' := fun k_ => True) ho0 (fun k_ hk_ => trivial))
    have n3_ := za.mk (hb)
    clear BK189
    clear HO192
    clear HB
    have BK189 := n0_
    have HO192 := n1_
    have HO195 := n2_
    have HB := n3_
    clear n0_ n1_ n2_ n3_
    (try clear hb)
    (try clear hkp)
    (try clear ho0)
    obtain ⟨Ao14, co14, eo14⟩ := Kd.R_slice HO195.out
    (first | subst eo14 | (injection eo14 with f1_ f2_ f3_; have f4_ := f1_.symm; have f5_ := f3_.symm; clear f1_ f2_ f3_; subst f4_; subst f5_))
    refine hK.out _ _ ⟨(zg BK189.out 0).trans rfl, (zg BK189.out 1).trans rfl, (zg BK189.out 2).trans rfl, (zg BK189.out 3).trans rfl, (zg BK189.out 4).trans rfl⟩ (fun hHeld => ?_)
    clear hK K
    refine yH (a' := ?_) ?_ ?_
    rotate_left
    ·show Act.put _ (some 10) _ = _
     simp only [Act.put, Vt, Vu, Vv, zx, zz]
     rfl
    refine Xq (i := 8) (j := 11) (Ni := some 13) (Nj := some 16) #[ZT,ZT,ZT,ZT,ZT,ZT,ZT,ZT,ZT,ZT,ZT,ZF,ZF,ZF] #[ZT,ZT,ZT,ZT,ZT,ZT,ZT,ZT,ZF,ZT,ZT,ZT,ZF,ZF] rfl rfl rfl rfl (vZ HT_.out (by kernel_rfl)) (by decide) (by decide) (fun K hK => ?_) (fun K hK => ?_)
    ·skip
     refine xa Try.func38 (by kernel_rfl) rfl #[.slice Ao14 t193.length co14, .string a0_2] (by rfl) rfl rfl (by (try simp only [Vw, List.map_cons, List.map_nil]); first | done | rfl | (simp only [List.length_drop, List.length_take]; rfl)) ?_
     with_reducible refine (yR.calls (fun k_ => some k_ = (.slice Ao14 t193.length co14 : Value).ownBlock) (.slice Ao14 t193.length co14) t193 a0_2 t196 w _ ?side1 ?side2 A3.out).mono ?_
     (case side1 => repeat (first | (with_reducible first | exact HB.out | apply zc | apply zb | apply zd | refine zh ?_ GE189.out) | exact HB.out))
     (case side2 => exact Kd.R_tight rfl HO195.out)
     rintro e w15 ⟨v197, rfl, ho0, hb, hkp⟩
     refine ⟨_, rfl, ?_⟩
     have n0_ := za.mk (y6 (by (with_reducible repeat (first | refine zt ?_ _ | refine zu ?_ | refine zr ?_ _)); exact BK189.out) hkp (fun hs_ => (fun e_ => (Kd.R_ne HO195.out BK189.out (by decide)) e_) hs_))
     have n1_ := za.mk (Kd.R_mono (ok' := fun k_ => True) (Kd.R_keptB ((Kd.R_apart' HO192.out (Kd.R_typed HO195.out) (by decide))) hkp (fun k_ hk_ hs_ => (hk_.2) hs_)) (fun k_ hk_ => trivial))
     have n2_ := za.mk (Kd.R_mono (ok' := fun k_ => True) ho0 (fun k_ hk_ => trivial))
     have n3_ := za.mk (hb)
     clear BK189
     clear HO192
     clear HB
     clear HO195
     have BK189 := n0_
     have HO192 := n1_
     have HO198 := n2_
     have HB := n3_
     clear n0_ n1_ n2_ n3_
     (try clear hb)
     (try clear hkp)
     (try clear ho0)
     refine hK.out _ _ ⟨(zg BK189.out 0).trans rfl, (zg BK189.out 1).trans rfl, (zg BK189.out 2).trans rfl, (zg BK189.out 3).trans rfl, (zg BK189.out 4).trans rfl⟩ (fun hHeld => ?_)
     clear hK K
     refine yH (a' := ?_) ?_ ?_
     rotate_left
     ·show Act.put _ (some 13) _ = _
      simp only [Act.put, Vt, Vu, Vv, zx, zz]
      rfl
     refine xC (i := 11) (N := some 16) #[ZT,ZT,ZT,ZT,ZT,ZT,ZT,ZT,ZT,ZT,ZT,ZT,ZF,ZF] rfl rfl (y9 HT_.out (by kernel_rfl)) (by decide) (fun K hK => ?_)
     refine Kd.R_lit_step (Kd.int .i64) _ 3 ?hg (N := 16) ?hd (xs := ([a0_3] : List Int)) (inner := [.int .i64 a0_3]) (ok := fun _ => True) (okp := fun _ => True) ?hr ?hp (fun _ hk => hk) trivial (Below.refl _ _) (Nat.le_refl _) (by simp) ?_; (case hd => rfl); (case hg => rfl); (case hr => first | (go_simp; done) | (go_simp; rfl)); (case hp => exact (yh.one (show Kd.M (Kd.int .i64) _ _ _ a0_3 [.int .i64 a0_3] from rfl) (yh.none _ _)))
     intro v200 w16 ho17 hb hg_ hnew_
     clear hg_ hnew_
     (first | rw [← Ny199.out] at ho17 | (simp only [Int.reduceToNat] at ho17; rw [← Ny199.out] at ho17))
     have n0_ := za.mk (Kd.R_elder' (by (with_reducible repeat (first | apply Kd.R_alloc | apply Kd.R_drewN | apply Kd.R_drew)); exact HO192.out) (Kd.R_base ho17) hb)
     have n1_ := za.mk (Kd.R_below (by (with_reducible repeat (first | apply Kd.R_alloc | apply Kd.R_drewN | apply Kd.R_drew)); exact HO198.out) hb)
     have n2_ := za.mk (Kd.R_lower (Kd.R_new' ho17 (Kd.R_lt (by (with_reducible repeat (first | apply Kd.R_alloc | apply Kd.R_drewN | apply Kd.R_drew)); exact HO192.out))) (zp (by repeat (first | (with_reducible first | exact HB.out | apply zc | apply zb | apply zd | refine zh ?_ GE189.out) | exact HB.out))))
     have n3_ := za.mk (zH (g := gb189) (o := .cells #[.int .i64 a0_0, .int .i64 a0_1, .string a0_2, .int .i64 a0_3, .slice A0_4 l0_4.length c0_4] 27 (0, 0)) (by (with_reducible repeat (first | refine zt ?_ _ | refine zu ?_ | refine zr ?_ _)); exact BK189.out) hb)
     have n4_ := za.mk (zi (by repeat (first | (with_reducible first | exact HB.out | apply zc | apply zb | apply zd | refine zh ?_ GE189.out) | exact HB.out)) hb)
     clear HO192
     clear HO198
     clear BK189
     clear HB
     have HO192 := n0_
     have HO198 := n1_
     have HO201 := n2_
     have BK189 := n3_
     have HB := n4_
     clear n0_ n1_ n2_ n3_ n4_
     clear hb ho17
     refine hK.out _ _ ⟨(zg BK189.out 0).trans rfl, (zg BK189.out 1).trans rfl, (zg BK189.out 2).trans rfl, (zg BK189.out 3).trans rfl, (zg BK189.out 4).trans rfl⟩ (fun hHeld => ?_)
     clear hK K
     refine yH (a' := ?_) ?_ ?_
     rotate_left
     ·show Act.put _ (some 16) _ = _
      simp only [Act.put, Vt, Vu, Vv, zx, zz]
      rfl
     exact yH (by simp only [qk, Act.put, Vt, Vu, Vv]) (hCont (.slice Ao12 y190.length co12, .slice Ao14 t193.length co14, v197, v200) _ ⟨hHeld, (by (with_reducible repeat (first | apply Kd.R_alloc | apply Kd.R_drewN | apply Kd.R_drew)); exact Kd.R_mono HO192.out (fun _ hk => hk.2)), (by (with_reducible repeat (first | apply Kd.R_alloc | apply Kd.R_drewN | apply Kd.R_drew)); exact HO198.out), (by (with_reducible repeat (first | apply Kd.R_alloc | apply Kd.R_drewN | apply Kd.R_drew)); exact Kd.R_mono HO201.out (fun _ hk => hk.2)), (by (with_reducible repeat (first | refine zt ?_ _ | refine zu ?_ | refine zr ?_ _)); exact BK189.out), (by repeat (first | (with_reducible first | exact HB.out | apply zc | apply zb | apply zd | refine zh ?_ GE189.out) | exact HB.out))⟩)
    ·skip
     refine Kd.R_lit_step (Kd.int .i64) _ 3 ?hg (N := 16) ?hd (xs := ([a0_3] : List Int)) (inner := [.int .i64 a0_3]) (ok := fun _ => True) (okp := fun _ => True) ?hr ?hp (fun _ hk => hk) trivial (Below.refl _ _) (Nat.le_refl _) (by simp) ?_; (case hd => rfl); (case hg => rfl); (case hr => first | (go_simp; done) | (go_simp; rfl)); (case hp => exact (yh.one (show Kd.M (Kd.int .i64) _ _ _ a0_3 [.int .i64 a0_3] from rfl) (yh.none _ _)))
     intro v200 w14 ho15 hb hg_ hnew_
     clear hg_ hnew_
     (first | rw [← Ny199.out] at ho15 | (simp only [Int.reduceToNat] at ho15; rw [← Ny199.out] at ho15))
     have n0_ := za.mk (Kd.R_elder' (by (with_reducible repeat (first | apply Kd.R_alloc | apply Kd.R_drewN | apply Kd.R_drew)); exact HO192.out) (Kd.R_base ho15) hb)
     have n1_ := za.mk (Kd.R_below (by (with_reducible repeat (first | apply Kd.R_alloc | apply Kd.R_drewN | apply Kd.R_drew)); exact HO195.out) hb)
     have n2_ := za.mk (Kd.R_lower (Kd.R_new' ho15 (Kd.R_lt (by (with_reducible repeat (first | apply Kd.R_alloc | apply Kd.R_drewN | apply Kd.R_drew)); exact HO192.out))) (zp (by repeat (first | (with_reducible first | exact HB.out | apply zc | apply zb | apply zd | refine zh ?_ GE189.out) | exact HB.out))))
     have n3_ := za.mk (zH (g := gb189) (o := .cells #[.int .i64 a0_0, .int .i64 a0_1, .string a0_2, .int .i64 a0_3, .slice A0_4 l0_4.length c0_4] 27 (0, 0)) (by (with_reducible repeat (first | refine zt ?_ _ | refine zu ?_ | refine zr ?_ _)); exact BK189.out) hb)
     have n4_ := za.mk (zi (by repeat (first | (with_reducible first | exact HB.out | apply zc | apply zb | apply zd | refine zh ?_ GE189.out) | exact HB.out)) hb)
     clear HO192
     clear HO195
     clear BK189
     clear HB
     have HO192 := n0_
     have HO195 := n1_
     have HO201 := n2_
     have BK189 := n3_
     have HB := n4_
     clear n0_ n1_ n2_ n3_ n4_
     clear hb ho15
     obtain ⟨Ao16, co16, eo16⟩ := Kd.R_slice HO195.out
     (first | subst eo16 | (injection eo16 with f1_ f2_ f3_; have f4_ := f1_.symm; have f5_ := f3_.symm; clear f1_ f2_ f3_; subst f4_; subst f5_))
     refine hK.out _ _ ⟨(zg BK189.out 0).trans rfl, (zg BK189.out 1).trans rfl, (zg BK189.out 2).trans rfl, (zg BK189.out 3).trans rfl, (zg BK189.out 4).trans rfl⟩ (fun hHeld => ?_)
     clear hK K
     refine yH (a' := ?_) ?_ ?_
     rotate_left
     ·show Act.put _ (some 16) _ = _
      simp only [Act.put, Vt, Vu, Vv, zx, zz]
      rfl
     refine xC (i := 8) (N := some 13) #[ZT,ZT,ZT,ZT,ZT,ZT,ZT,ZT,ZT,ZT,ZT,ZT,ZF,ZF] rfl rfl (y9 HT_.out (by kernel_rfl)) (by decide) (fun K hK => ?_)
     refine xa Try.func38 (by kernel_rfl) rfl #[.slice Ao16 t193.length co16, .string a0_2] (by rfl) rfl rfl (by (try simp only [Vw, List.map_cons, List.map_nil]); first | done | rfl | (simp only [List.length_drop, List.length_take]; rfl)) ?_
     with_reducible refine (yR.calls (fun k_ => some k_ = (.slice Ao16 t193.length co16 : Value).ownBlock) (.slice Ao16 t193.length co16) t193 a0_2 t196 w _ ?side1 ?side2 A3.out).mono ?_
     (case side1 => repeat (first | (with_reducible first | exact HB.out | apply zc | apply zb | apply zd | refine zh ?_ GE189.out) | exact HB.out))
     (case side2 => exact Kd.R_tight rfl HO195.out)
     rintro e w17 ⟨v197, rfl, ho0, hb, hkp⟩
     refine ⟨_, rfl, ?_⟩
     have n0_ := za.mk (y6 (by (with_reducible repeat (first | refine zt ?_ _ | refine zu ?_ | refine zr ?_ _)); exact BK189.out) hkp (fun hs_ => (fun e_ => (Kd.R_ne HO195.out BK189.out (by decide)) e_) hs_))
     have n1_ := za.mk (Kd.R_mono (ok' := fun k_ => some k_ ≠ (v200 : Value).ownBlock) (Kd.R_keptB ((Kd.R_apart' HO192.out (Kd.R_typed HO195.out) (by decide))) hkp (fun k_ hk_ hs_ => (hk_.2) hs_)) (fun k_ hk_ => hk_.1.1.2))
     have n2_ := za.mk (Kd.R_mono (ok' := fun k_ => some k_ ≠ (.slice Ao12 y190.length co12 : Value).ownBlock) (Kd.R_keptB ((Kd.R_apart' HO201.out (Kd.R_typed HO195.out) (by decide))) hkp (fun k_ hk_ hs_ => (hk_.2) hs_)) (fun k_ hk_ => hk_.1.1.2))
     have n3_ := za.mk (Kd.R_mono (ok' := fun k_ => True) ho0 (fun k_ hk_ => trivial))
     have n4_ := za.mk (hb)
     clear BK189
     clear HO192
     clear HO201
     clear HB
     clear HO195
     have BK189 := n0_
     have HO192 := n1_
     have HO201 := n2_
     have HO198 := n3_
     have HB := n4_
     clear n0_ n1_ n2_ n3_ n4_
     (try clear hb)
     (try clear hkp)
     (try clear ho0)
     refine hK.out _ _ ⟨(zg BK189.out 0).trans rfl, (zg BK189.out 1).trans rfl, (zg BK189.out 2).trans rfl, (zg BK189.out 3).trans rfl, (zg BK189.out 4).trans rfl⟩ (fun hHeld => ?_)
     clear hK K
     refine yH (a' := ?_) ?_ ?_
     rotate_left
     ·show Act.put _ (some 13) _ = _
      simp only [Act.put, Vt, Vu, Vv, zx, zz]
      rfl
     exact yH (by simp only [qk, Act.put, Vt, Vu, Vv]) (hCont (.slice Ao12 y190.length co12, .slice Ao16 t193.length co16, v197, v200) _ ⟨hHeld, (by (with_reducible repeat (first | apply Kd.R_alloc | apply Kd.R_drewN | apply Kd.R_drew)); exact HO192.out), (by (with_reducible repeat (first | apply Kd.R_alloc | apply Kd.R_drewN | apply Kd.R_drew)); exact HO198.out), (by (with_reducible repeat (first | apply Kd.R_alloc | apply Kd.R_drewN | apply Kd.R_drew)); exact HO201.out), (by (with_reducible repeat (first | refine zt ?_ _ | refine zu ?_ | refine zr ?_ _)); exact BK189.out), (by repeat (first | (with_reducible first | exact HB.out | apply zc | apply zb | apply zd | refine zh ?_ GE189.out) | exact HB.out))⟩)
   ·skip
    refine Kd.R_lit_step (Kd.int .i64) _ 3 ?hg (N := 16) ?hd (xs := ([a0_3] : List Int)) (inner := [.int .i64 a0_3]) (ok := fun _ => True) (okp := fun _ => True) ?hr ?hp (fun _ hk => hk) trivial (Below.refl _ _) (Nat.le_refl _) (by simp) ?_; (case hd => rfl); (case hg => rfl); (case hr => first | (go_simp; done) | (go_simp; rfl)); (case hp => exact (yh.one (show Kd.M (Kd.int .i64) _ _ _ a0_3 [.int .i64 a0_3] from rfl) (yh.none _ _)))
    intro v200 w12 ho13 hb hg_ hnew_
    clear hg_ hnew_
    (first | rw [← Ny199.out] at ho13 | (simp only [Int.reduceToNat] at ho13; rw [← Ny199.out] at ho13))
    have n0_ := za.mk (Kd.R_elder' (by (with_reducible repeat (first | apply Kd.R_alloc | apply Kd.R_drewN | apply Kd.R_drew)); exact HO192.out) (Kd.R_base ho13) hb)
    have n1_ := za.mk (Kd.R_lower (Kd.R_new' ho13 (Kd.R_lt (by (with_reducible repeat (first | apply Kd.R_alloc | apply Kd.R_drewN | apply Kd.R_drew)); exact HO192.out))) (zp (by repeat (first | (with_reducible first | exact HB.out | apply zc | apply zb | apply zd | refine zh ?_ GE189.out) | exact HB.out))))
    have n2_ := za.mk (zH (g := gb189) (o := .cells #[.int .i64 a0_0, .int .i64 a0_1, .string a0_2, .int .i64 a0_3, .slice A0_4 l0_4.length c0_4] 27 (0, 0)) (by (with_reducible repeat (first | refine zt ?_ _ | refine zu ?_ | refine zr ?_ _)); exact BK189.out) hb)
    have n3_ := za.mk (zi (by repeat (first | (with_reducible first | exact HB.out | apply zc | apply zb | apply zd | refine zh ?_ GE189.out) | exact HB.out)) hb)
    clear HO192
    clear BK189
    clear HB
    have HO192 := n0_
    have HO201 := n1_
    have BK189 := n2_
    have HB := n3_
    clear n0_ n1_ n2_ n3_
    clear hb ho13
    obtain ⟨Ao14, co14, eo14⟩ := Kd.R_slice HO192.out
    (first | subst eo14 | (injection eo14 with f1_ f2_ f3_; have f4_ := f1_.symm; have f5_ := f3_.symm; clear f1_ f2_ f3_; subst f4_; subst f5_))
    refine hK.out _ _ ⟨(zg BK189.out 0).trans rfl, (zg BK189.out 1).trans rfl, (zg BK189.out 2).trans rfl, (zg BK189.out 3).trans rfl, (zg BK189.out 4).trans rfl⟩ (fun hHeld => ?_)
    clear hK K
    refine yH (a' := ?_) ?_ ?_
    rotate_left
    ·show Act.put _ (some 16) _ = _
     simp only [Act.put, Vt, Vu, Vv, zx, zz]
     rfl
    refine xC (i := 5) (N := some 10) #[ZT,ZT,ZT,ZT,ZT,ZT,ZT,ZT,ZF,ZT,ZT,ZT,ZF,ZF] rfl rfl (y9 HT_.out (by kernel_rfl)) (by decide) (fun K hK => ?_)
    refine xa Try.func39 (by kernel_rfl) rfl #[.slice none 0 0, .slice Ao14 y190.length co14] (by rfl) rfl rfl (by (try simp only [Vw, List.map_cons, List.map_nil]); first | done | rfl | (simp only [List.length_drop, List.length_take]; rfl)) ?_
    refine (zD.calls k (fun k_ => some k_ = (.slice none 0 0 : Value).ownBlock) (.slice none 0 0) ([] : List Int) _ _ y190 t193 w _ ?side1 ?side2 ?side3 ?side4 A2.out).mono ?_
    (case side1 => repeat (first | (with_reducible first | exact HB.out | apply zc | apply zb | apply zd | refine zh ?_ GE189.out) | exact HB.out))
    (case side2 => exact Kd.R_nil _ _ _ _ _)
    (case side3 => exact Kd.C_kept_own (HO192.out) (fun k_ hk_ hs_ => (fun e_ => by simp [Value.ownBlock] at e_) hs_))
    (case side4 => exact (Kd.R_reads' HO192.out).2.1)
    rintro e w15 ⟨v194, rfl, ho0, hb, hkp⟩
    refine ⟨_, rfl, ?_⟩
    have n0_ := za.mk (y6 (by (with_reducible repeat (first | refine zt ?_ _ | refine zu ?_ | refine zr ?_ _)); exact BK189.out) hkp (fun hs_ => (fun e_ => by simp [Value.ownBlock] at e_) hs_))
    have n1_ := za.mk (Kd.R_mono (ok' := fun k_ => some k_ ≠ (v200 : Value).ownBlock) (Kd.R_keptB (HO192.out) hkp (fun k_ hk_ hs_ => (fun e_ => by simp [Value.ownBlock] at e_) hs_)) (fun k_ hk_ => hk_.1.2))
    have n2_ := za.mk (Kd.R_mono (ok' := fun k_ => some k_ ≠ (.slice Ao14 y190.length co14 : Value).ownBlock) (Kd.R_keptB (HO201.out) hkp (fun k_ hk_ hs_ => (fun e_ => by simp [Value.ownBlock] at e_) hs_)) (fun k_ hk_ => hk_.1.2))
    have n3_ := za.mk (Kd.R_mono (ok' := fun k_ => True) ho0 (fun k_ hk_ => trivial))
    have n4_ := za.mk (hb)
    clear BK189
    clear HO192
    clear HO201
    clear HB
    have BK189 := n0_
    have HO192 := n1_
    have HO201 := n2_
    have HO195 := n3_
    have HB := n4_
    clear n0_ n1_ n2_ n3_ n4_
    (try clear hb)
    (try clear hkp)
    (try clear ho0)
    obtain ⟨Ao16, co16, eo16⟩ := Kd.R_slice HO195.out
    (first | subst eo16 | (injection eo16 with f1_ f2_ f3_; have f4_ := f1_.symm; have f5_ := f3_.symm; clear f1_ f2_ f3_; subst f4_; subst f5_))
    refine hK.out _ _ ⟨(zg BK189.out 0).trans rfl, (zg BK189.out 1).trans rfl, (zg BK189.out 2).trans rfl, (zg BK189.out 3).trans rfl, (zg BK189.out 4).trans rfl⟩ (fun hHeld => ?_)
    clear hK K
    refine yH (a' := ?_) ?_ ?_
    rotate_left
    ·show Act.put _ (some 10) _ = _
     simp only [Act.put, Vt, Vu, Vv, zx, zz]
     rfl
    refine xC (i := 8) (N := some 13) #[ZT,ZT,ZT,ZT,ZT,ZT,ZT,ZT,ZT,ZT,ZT,ZT,ZF,ZF] rfl rfl (y9 HT_.out (by kernel_rfl)) (by decide) (fun K hK => ?_)
    refine xa Try.func38 (by kernel_rfl) rfl #[.slice Ao16 t193.length co16, .string a0_2] (by rfl) rfl rfl (by (try simp only [Vw, List.map_cons, List.map_nil]); first | done | rfl | (simp only [List.length_drop, List.length_take]; rfl)) ?_
    with_reducible refine (yR.calls (fun k_ => some k_ = (.slice Ao16 t193.length co16 : Value).ownBlock) (.slice Ao16 t193.length co16) t193 a0_2 t196 w _ ?side1 ?side2 A3.out).mono ?_
    (case side1 => repeat (first | (with_reducible first | exact HB.out | apply zc | apply zb | apply zd | refine zh ?_ GE189.out) | exact HB.out))
    (case side2 => exact Kd.R_tight rfl HO195.out)
    rintro e w17 ⟨v197, rfl, ho0, hb, hkp⟩
    refine ⟨_, rfl, ?_⟩
    have n0_ := za.mk (y6 (by (with_reducible repeat (first | refine zt ?_ _ | refine zu ?_ | refine zr ?_ _)); exact BK189.out) hkp (fun hs_ => (fun e_ => (Kd.R_ne HO195.out BK189.out (by decide)) e_) hs_))
    have n1_ := za.mk (Kd.R_mono (ok' := fun k_ => some k_ ≠ (v200 : Value).ownBlock) (Kd.R_keptB ((Kd.R_apart' HO192.out (Kd.R_typed HO195.out) (by decide))) hkp (fun k_ hk_ hs_ => (hk_.2) hs_)) (fun k_ hk_ => hk_.1.1))
    have n2_ := za.mk (Kd.R_mono (ok' := fun k_ => some k_ ≠ (.slice Ao14 y190.length co14 : Value).ownBlock) (Kd.R_keptB ((Kd.R_apart' HO201.out (Kd.R_typed HO195.out) (by decide))) hkp (fun k_ hk_ hs_ => (hk_.2) hs_)) (fun k_ hk_ => hk_.1.1))
    have n3_ := za.mk (Kd.R_mono (ok' := fun k_ => True) ho0 (fun k_ hk_ => trivial))
    have n4_ := za.mk (hb)
    clear BK189
    clear HO192
    clear HO201
    clear HB
    clear HO195
    have BK189 := n0_
    have HO192 := n1_
    have HO201 := n2_
    have HO198 := n3_
    have HB := n4_
    clear n0_ n1_ n2_ n3_ n4_
    (try clear hb)
    (try clear hkp)
    (try clear ho0)
    refine hK.out _ _ ⟨(zg BK189.out 0).trans rfl, (zg BK189.out 1).trans rfl, (zg BK189.out 2).trans rfl, (zg BK189.out 3).trans rfl, (zg BK189.out 4).trans rfl⟩ (fun hHeld => ?_)
    clear hK K
    refine yH (a' := ?_) ?_ ?_
    rotate_left
    ·show Act.put _ (some 13) _ = _
     simp only [Act.put, Vt, Vu, Vv, zx, zz]
     rfl
    exact yH (by simp only [qk, Act.put, Vt, Vu, Vv]) (hCont (.slice Ao14 y190.length co14, .slice Ao16 t193.length co16, v197, v200) _ ⟨hHeld, (by (with_reducible repeat (first | apply Kd.R_alloc | apply Kd.R_drewN | apply Kd.R_drew)); exact HO192.out), (by (with_reducible repeat (first | apply Kd.R_alloc | apply Kd.R_drewN | apply Kd.R_drew)); exact HO198.out), (by (with_reducible repeat (first | apply Kd.R_alloc | apply Kd.R_drewN | apply Kd.R_drew)); exact HO201.out), (by (with_reducible repeat (first | refine zt ?_ _ | refine zu ?_ | refine zr ?_ _)); exact BK189.out), (by repeat (first | (with_reducible first | exact HB.out | apply zc | apply zb | apply zd | refine zh ?_ GE189.out) | exact HB.out))⟩)
  ·skip
   refine Kd.R_lit_step (Kd.int .i64) _ 3 ?hg (N := 16) ?hd (xs := ([a0_3] : List Int)) (inner := [.int .i64 a0_3]) (ok := fun _ => True) (okp := fun _ => True) ?hr ?hp (fun _ hk => hk) trivial (Below.refl _ _) (Nat.le_refl _) (by simp) ?_; (case hd => rfl); (case hg => rfl); (case hr => first | (go_simp; done) | (go_simp; rfl)); (case hp => exact (yh.one (show Kd.M (Kd.int .i64) _ _ _ a0_3 [.int .i64 a0_3] from rfl) (yh.none _ _)))
   intro v200 w10 ho11 hb hg_ hnew_
   clear hg_ hnew_
   (first | rw [← Ny199.out] at ho11 | (simp only [Int.reduceToNat] at ho11; rw [← Ny199.out] at ho11))
   have n0_ := za.mk (Kd.R_lower ho11 (zp (by repeat (first | (with_reducible first | exact HB.out | apply zc | apply zb | apply zd | refine zh ?_ GE189.out) | exact HB.out))))
   have n1_ := za.mk (zH (g := gb189) (o := .cells #[.int .i64 a0_0, .int .i64 a0_1, .string a0_2, .int .i64 a0_3, .slice A0_4 l0_4.length c0_4] 27 (0, 0)) (by (with_reducible repeat (first | refine zt ?_ _ | refine zu ?_ | refine zr ?_ _)); exact BK189.out) hb)
   have n2_ := za.mk (zi (by repeat (first | (with_reducible first | exact HB.out | apply zc | apply zb | apply zd | refine zh ?_ GE189.out) | exact HB.out)) hb)
   clear BK189
   clear HB
   have HO201 := n0_
   have BK189 := n1_
   have HB := n2_
   clear n0_ n1_ n2_
   clear hb ho11
   refine hK.out _ _ ⟨(zg BK189.out 0).trans rfl, (zg BK189.out 1).trans rfl, (zg BK189.out 2).trans rfl, (zg BK189.out 3).trans rfl, (zg BK189.out 4).trans rfl⟩ (fun hHeld => ?_)
   clear hK K
   refine yH (a' := ?_) ?_ ?_
   rotate_left
   ·show Act.put _ (some 16) _ = _
    simp only [Act.put, Vt, Vu, Vv, zx, zz]
    rfl
   refine xC (i := 4) (N := some 9) #[ZT,ZT,ZT,ZT,ZT,ZF,ZT,ZT,ZF,ZT,ZT,ZT,ZF,ZF] rfl rfl (y9 HT_.out (by kernel_rfl)) (by decide) (fun K hK => ?_)
   refine Kd.R_lit_step (Kd.int .i64) _ 3 ?hg (N := 9) ?hd (xs := ([a0_0, a0_1] : List Int)) (inner := [.int .i64 a0_0, .int .i64 a0_1]) (ok := fun _ => True) (okp := fun _ => True) ?hr ?hp (fun _ hk => hk) trivial (Below.refl _ _) (Nat.le_refl _) (by simp) ?_; (case hd => rfl); (case hg => rfl); (case hr => first | (go_simp; done) | (go_simp; rfl)); (case hp => exact (yh.one (show Kd.M (Kd.int .i64) _ _ _ a0_0 [.int .i64 a0_0] from rfl) (yh.one (show Kd.M (Kd.int .i64) _ _ _ a0_1 [.int .i64 a0_1] from rfl) (yh.none _ _))))
   intro v191 w12 ho13 hb hg_ hnew_
   clear hg_ hnew_
   (first | rw [← Ny190.out] at ho13 | (simp only [Int.reduceToNat] at ho13; rw [← Ny190.out] at ho13))
   have n0_ := za.mk (Kd.R_elder' (by (with_reducible repeat (first | apply Kd.R_alloc | apply Kd.R_drewN | apply Kd.R_drew)); exact HO201.out) (Kd.R_base ho13) hb)
   have n1_ := za.mk (Kd.R_lower (Kd.R_new' ho13 (Kd.R_lt (by (with_reducible repeat (first | apply Kd.R_alloc | apply Kd.R_drewN | apply Kd.R_drew)); exact HO201.out))) (zp (by repeat (first | (with_reducible first | exact HB.out | apply zc | apply zb | apply zd | refine zh ?_ GE189.out) | exact HB.out))))
   have n2_ := za.mk (zH (g := gb189) (o := .cells #[.int .i64 a0_0, .int .i64 a0_1, .string a0_2, .int .i64 a0_3, .slice A0_4 l0_4.length c0_4] 27 (0, 0)) (by (with_reducible repeat (first | refine zt ?_ _ | refine zu ?_ | refine zr ?_ _)); exact BK189.out) hb)
   have n3_ := za.mk (zi (by repeat (first | (with_reducible first | exact HB.out | apply zc | apply zb | apply zd | refine zh ?_ GE189.out) | exact HB.out)) hb)
   clear HO201
   clear BK189
   clear HB
   have HO201 := n0_
   have HO192 := n1_
   have BK189 := n2_
   have HB := n3_
   clear n0_ n1_ n2_ n3_
   clear hb ho13
   obtain ⟨Ao14, co14, eo14⟩ := Kd.R_slice HO192.out
   (first | subst eo14 | (injection eo14 with f1_ f2_ f3_; have f4_ := f1_.symm; have f5_ := f3_.symm; clear f1_ f2_ f3_; subst f4_; subst f5_))
   refine hK.out _ _ ⟨(zg BK189.out 0).trans rfl, (zg BK189.out 1).trans rfl, (zg BK189.out 2).trans rfl, (zg BK189.out 3).trans rfl, (zg BK189.out 4).trans rfl⟩ (fun hHeld => ?_)
   clear hK K
   refine yH (a' := ?_) ?_ ?_
   rotate_left
   ·show Act.put _ (some 9) _ = _
    simp only [Act.put, Vt, Vu, Vv, zx, zz]
    rfl
   refine xC (i := 5) (N := some 10) #[ZT,ZT,ZT,ZT,ZT,ZT,ZT,ZT,ZF,ZT,ZT,ZT,ZF,ZF] rfl rfl (y9 HT_.out (by kernel_rfl)) (by decide) (fun K hK => ?_)
   refine xa Try.func39 (by kernel_rfl) rfl #[.slice none 0 0, .slice Ao14 y190.length co14] (by rfl) rfl rfl (by (try simp only [Vw, List.map_cons, List.map_nil]); first | done | rfl | (simp only [List.length_drop, List.length_take]; rfl)) ?_
   refine (zD.calls k (fun k_ => some k_ = (.slice none 0 0 : Value).ownBlock) (.slice none 0 0) ([] : List Int) _ _ y190 t193 w _ ?side1 ?side2 ?side3 ?side4 A2.out).mono ?_
   (case side1 => repeat (first | (with_reducible first | exact HB.out | apply zc | apply zb | apply zd | refine zh ?_ GE189.out) | exact HB.out))
   (case side2 => exact Kd.R_nil _ _ _ _ _)
   (case side3 => exact Kd.C_kept_own (HO192.out) (fun k_ hk_ hs_ => (fun e_ => by simp [Value.ownBlock] at e_) hs_))
   (case side4 => exact (Kd.R_reads' HO192.out).2.1)
   rintro e w15 ⟨v194, rfl, ho0, hb, hkp⟩
   refine ⟨_, rfl, ?_⟩
   have n0_ := za.mk (y6 (by (with_reducible repeat (first | refine zt ?_ _ | refine zu ?_ | refine zr ?_ _)); exact BK189.out) hkp (fun hs_ => (fun e_ => by simp [Value.ownBlock] at e_) hs_))
   have n1_ := za.mk (Kd.R_mono (ok' := fun k_ => some k_ ≠ (.slice Ao14 y190.length co14 : Value).ownBlock) (Kd.R_keptB (HO201.out) hkp (fun k_ hk_ hs_ => (fun e_ => by simp [Value.ownBlock] at e_) hs_)) (fun k_ hk_ => hk_.1.2))
   have n2_ := za.mk (Kd.R_mono (ok' := fun k_ => some k_ ≠ (v200 : Value).ownBlock) (Kd.R_keptB (HO192.out) hkp (fun k_ hk_ hs_ => (fun e_ => by simp [Value.ownBlock] at e_) hs_)) (fun k_ hk_ => hk_.1.2))
   have n3_ := za.mk (Kd.R_mono (ok' := fun k_ => True) ho0 (fun k_ hk_ => trivial))
   have n4_ := za.mk (hb)
   clear BK189
   clear HO201
   clear HO192
   clear HB
   have BK189 := n0_
   have HO201 := n1_
   have HO192 := n2_
   have HO195 := n3_
   have HB := n4_
   clear n0_ n1_ n2_ n3_ n4_
   (try clear hb)
   (try clear hkp)
   (try clear ho0)
   obtain ⟨Ao16, co16, eo16⟩ := Kd.R_slice HO195.out
   (first | subst eo16 | (injection eo16 with f1_ f2_ f3_; have f4_ := f1_.symm; have f5_ := f3_.symm; clear f1_ f2_ f3_; subst f4_; subst f5_))
   refine hK.out _ _ ⟨(zg BK189.out 0).trans rfl, (zg BK189.out 1).trans rfl, (zg BK189.out 2).trans rfl, (zg BK189.out 3).trans rfl, (zg BK189.out 4).trans rfl⟩ (fun hHeld => ?_)
   clear hK K
   refine yH (a' := ?_) ?_ ?_
   rotate_left
   ·show Act.put _ (some 10) _ = _
    simp only [Act.put, Vt, Vu, Vv, zx, zz]
    rfl
   refine xC (i := 8) (N := some 13) #[ZT,ZT,ZT,ZT,ZT,ZT,ZT,ZT,ZT,ZT,ZT,ZT,ZF,ZF] rfl rfl (y9 HT_.out (by kernel_rfl)) (by decide) (fun K hK => ?_)
   refine xa Try.func38 (by kernel_rfl) rfl #[.slice Ao16 t193.length co16, .string a0_2] (by rfl) rfl rfl (by (try simp only [Vw, List.map_cons, List.map_nil]); first | done | rfl | (simp only [List.length_drop, List.length_take]; rfl)) ?_
   with_reducible refine (yR.calls (fun k_ => some k_ = (.slice Ao16 t193.length co16 : Value).ownBlock) (.slice Ao16 t193.length co16) t193 a0_2 t196 w _ ?side1 ?side2 A3.out).mono ?_
   (case side1 => repeat (first | (with_reducible first | exact HB.out | apply zc | apply zb | apply zd | refine zh ?_ GE189.out) | exact HB.out))
   (case side2 => exact Kd.R_tight rfl HO195.out)
   rintro e w17 ⟨v197, rfl, ho0, hb, hkp⟩
   refine ⟨_, rfl, ?_⟩
   have n0_ := za.mk (y6 (by (with_reducible repeat (first | refine zt ?_ _ | refine zu ?_ | refine zr ?_ _)); exact BK189.out) hkp (fun hs_ => (fun e_ => (Kd.R_ne HO195.out BK189.out (by decide)) e_) hs_))
   have n1_ := za.mk (Kd.R_mono (ok' := fun k_ => some k_ ≠ (.slice Ao14 y190.length co14 : Value).ownBlock) (Kd.R_keptB ((Kd.R_apart' HO201.out (Kd.R_typed HO195.out) (by decide))) hkp (fun k_ hk_ hs_ => (hk_.2) hs_)) (fun k_ hk_ => hk_.1.1))
   have n2_ := za.mk (Kd.R_mono (ok' := fun k_ => some k_ ≠ (v200 : Value).ownBlock) (Kd.R_keptB ((Kd.R_apart' HO192.out (Kd.R_typed HO195.out) (by decide))) hkp (fun k_ hk_ hs_ => (hk_.2) hs_)) (fun k_ hk_ => hk_.1.1))
   have n3_ := za.mk (Kd.R_mono (ok' := fun k_ => True) ho0 (fun k_ hk_ => trivial))
   have n4_ := za.mk (hb)
   clear BK189
   clear HO201
   clear HO192
   clear HB
   clear HO195
   have BK189 := n0_
   have HO201 := n1_
   have HO192 := n2_
   have HO198 := n3_
   have HB := n4_
   clear n0_ n1_ n2_ n3_ n4_
   (try clear hb)
   (try clear hkp)
   (try clear ho0)
   refine hK.out _ _ ⟨(zg BK189.out 0).trans rfl, (zg BK189.out 1).trans rfl, (zg BK189.out 2).trans rfl, (zg BK189.out 3).trans rfl, (zg BK189.out 4).trans rfl⟩ (fun hHeld => ?_)
   clear hK K
   refine yH (a' := ?_) ?_ ?_
   rotate_left
   ·show Act.put _ (some 13) _ = _
    simp only [Act.put, Vt, Vu, Vv, zx, zz]
    rfl
   exact yH (by simp only [qk, Act.put, Vt, Vu, Vv]) (hCont (.slice Ao14 y190.length co14, .slice Ao16 t193.length co16, v197, v200) _ ⟨hHeld, (by (with_reducible repeat (first | apply Kd.R_alloc | apply Kd.R_drewN | apply Kd.R_drew)); exact HO192.out), (by (with_reducible repeat (first | apply Kd.R_alloc | apply Kd.R_drewN | apply Kd.R_drew)); exact HO198.out), (by (with_reducible repeat (first | apply Kd.R_alloc | apply Kd.R_drewN | apply Kd.R_drew)); exact HO201.out), (by (with_reducible repeat (first | refine zt ?_ _ | refine zu ?_ | refine zr ?_ _)); exact BK189.out), (by repeat (first | (with_reducible first | exact HB.out | apply zc | apply zb | apply zd | refine zh ?_ GE189.out) | exact HB.out))⟩)
 rintro ⟨v191, v194, v197, v200⟩ w18 ⟨hS_, h0_, h1_, h2_, h3_, h4_⟩
 have n0_ : za (Kd.R (Kd.int .i64) 3 w18 w.heap.size (fun k_ => some k_ ≠ (v200 : Value).ownBlock) v191 y190) := ⟨h0_⟩
 have n1_ : za (Kd.R (Kd.int .u8) 5 w18 w.heap.size (fun _ => True) v197 t196) := ⟨h1_⟩
 have n2_ : za (Kd.R (Kd.int .i64) 3 w18 w.heap.size (fun k_ => some k_ ≠ (v191 : Value).ownBlock) v200 y199) := ⟨h2_⟩
 have n3_ : za (w18.heap[gb189]? = some (.cells #[.int .i64 a0_0, .int .i64 a0_1, .string a0_2, .int .i64 a0_3, .slice A0_4 l0_4.length c0_4] 27 (0, 0))) := ⟨h3_⟩
 have n4_ : za (Below w.heap.size w w18) := ⟨h4_⟩
 clear BK189
 clear HB
 clear h0_ h1_ h2_ h3_ h4_
 have HO192 := n0_
 have HO198 := n1_
 have HO201 := n2_
 have BK189 := n3_
 have HB := n4_
 clear n0_ n1_ n2_ n3_ n4_
 have hHeld : w18.cell? ⟨gb189, 0, none⟩ = some (.int .i64 a0_0) ∧ w18.cell? ⟨gb189, 1, none⟩ = some (.int .i64 a0_1) ∧ w18.cell? ⟨gb189, 2, none⟩ = some (.string a0_2) ∧ w18.cell? ⟨gb189, 3, none⟩ = some (.int .i64 a0_3) ∧ w18.cell? ⟨gb189, 4, none⟩ = some (.slice A0_4 l0_4.length c0_4) := hS_
 obtain ⟨Ao19, co19, eo19⟩ := Kd.R_slice HO198.out
 (first | subst eo19 | (injection eo19 with f1_ f2_ f3_; have f4_ := f1_.symm; have f5_ := f3_.symm; clear f1_ f2_ f3_; subst f4_; subst f5_))
 obtain ⟨Ao20, co20, eo20⟩ := Kd.R_slice HO201.out
 (first | subst eo20 | (injection eo20 with f1_ f2_ f3_; have f4_ := f1_.symm; have f5_ := f3_.symm; clear f1_ f2_ f3_; subst f4_; subst f5_))
 refine yH (a' := ?_) ?_ ?_
 rotate_left
 ·simp only [qk, Act.put, Vt, Vu, Vv]
  rfl
 refine xC (i := 12) (N := some 17) #[ZT,ZT,ZT,ZT,ZT,ZT,ZT,ZT,ZT,ZT,ZT,ZT,ZT,ZF] rfl rfl (y9 HT_.out (by kernel_rfl)) (by decide) (fun K hK => ?_)
 refine xa Try.func39 (by kernel_rfl) rfl #[.slice Ao19 t196.length co19, .slice Ao20 y199.length co20] (by rfl) rfl rfl (by (try simp only [Vw, List.map_cons, List.map_nil]); first | done | rfl | (simp only [List.length_drop, List.length_take]; rfl)) ?_
 with_reducible refine (zD.calls k (fun k_ => some k_ = (.slice Ao19 t196.length co19 : Value).ownBlock) (.slice Ao19 t196.length co19) t196 _ _ y199 t202 w _ ?side1 ?side2 ?side3 ?side4 A4.out).mono ?_
 (case side1 => repeat (first | (with_reducible first | exact HB.out | apply zc | apply zb | apply zd | refine zh ?_ GE189.out) | exact HB.out))
 (case side2 => exact Kd.R_tight rfl HO198.out)
 (case side3 => exact Kd.C_kept_own ((Kd.R_apart' HO201.out (Kd.R_typed HO198.out) (by decide))) (fun k_ hk_ hs_ => (hk_.2) hs_))
 (case side4 => exact (Kd.R_reads' HO201.out).2.1)
 rintro e w21 ⟨v203, rfl, ho0, hb, hkp⟩
 refine ⟨_, rfl, ?_⟩
 have n0_ := za.mk (y6 (by (with_reducible repeat (first | refine zt ?_ _ | refine zu ?_ | refine zr ?_ _)); exact BK189.out) hkp (fun hs_ => (fun e_ => (Kd.R_ne HO198.out BK189.out (by decide)) e_) hs_))
 have n1_ := za.mk (Kd.R_mono (ok' := fun k_ => some k_ ≠ (.slice Ao20 y199.length co20 : Value).ownBlock) (Kd.R_keptB ((Kd.R_apart' HO192.out (Kd.R_typed HO198.out) (by decide))) hkp (fun k_ hk_ hs_ => (hk_.2) hs_)) (fun k_ hk_ => hk_.1.1))
 have n2_ := za.mk (Kd.R_mono (ok' := fun k_ => some k_ ≠ (v191 : Value).ownBlock) (Kd.R_keptB ((Kd.R_apart' HO201.out (Kd.R_typed HO198.out) (by decide))) hkp (fun k_ hk_ hs_ => (hk_.2) hs_)) (fun k_ hk_ => hk_.1.1))
 have n3_ := za.mk (Kd.R_mono (ok' := fun k_ => True) ho0 (fun k_ hk_ => trivial))
 have n4_ := za.mk (hb)
 clear BK189
 clear HO192
 clear HO201
 clear HB
 clear HO198
 have BK189 := n0_
 have HO192 := n1_
 have HO201 := n2_
 have HO204 := n3_
 have HB := n4_
 clear n0_ n1_ n2_ n3_ n4_
 (try clear hb)
 (try clear hkp)
 (try clear ho0)
 refine hK.out _ _ ⟨(zg BK189.out 0).trans rfl, (zg BK189.out 1).trans rfl, (zg BK189.out 2).trans rfl, (zg BK189.out 3).trans rfl, (zg BK189.out 4).trans rfl⟩ (fun hHeld => ?_)
 clear hK K
 refine yH (a' := ?_) ?_ ?_
 rotate_left
 ·show Act.put _ (some 17) _ = _
  simp only [Act.put, Vt, Vu, Vv, zx, zz]
  rfl
 refine zZ (i := 13) (N := some 4) (v := ?_) (a' := ?_) #[ZT,ZT,ZT,ZT,ZT,ZT,ZT,ZT,ZT,ZT,ZT,ZT,ZT,ZT] rfl rfl (zV HT_.out (by kernel_rfl)) (fun _ _ _ h => h) (Or.inl ⟨by rfl, ?_⟩) ?_ ?_
 rotate_left
 ·intro w'
  go_simp
  with_reducible rfl
 rotate_left
 ·simp only [Act.put, Vt, Vu, Vv, zx, zz]
  rfl
 refine q4 (qB HT_.out (by kernel_rfl)) ?_
 try go_wp2
 have n0_ := za.mk (Kd.R_drew HO192.out)
 have n1_ := za.mk (Kd.R_drew HO201.out)
 have n2_ := za.mk (Kd.R_drew HO204.out)
 have n3_ := za.mk (zu BK189.out)
 have n4_ := za.mk (zd HB.out)
 clear HO192
 clear HO201
 clear HO204
 clear BK189
 clear HB
 have HO192 := n0_
 have HO201 := n1_
 have HO204 := n2_
 have BK189 := n3_
 have HB := n4_
 clear n0_ n1_ n2_ n3_ n4_
 refine qF (n := 11) (S := fun w' => w'.cell? ⟨gb189, 0, none⟩ = some (.int .i64 a0_0) ∧ w'.cell? ⟨gb189, 1, none⟩ = some (.int .i64 a0_1) ∧ w'.cell? ⟨gb189, 2, none⟩ = some (.string a0_2) ∧ w'.cell? ⟨gb189, 3, none⟩ = some (.int .i64 a0_3) ∧ w'.cell? ⟨gb189, 4, none⟩ = some (.slice A0_4 l0_4.length c0_4)) (ds := []) #[ZF,ZF,ZF,ZF,ZF,ZF,ZF,ZF,ZF,ZF,ZF] (by kernel_rfl) rfl rfl ⟨(zg BK189.out 0).trans rfl, (zg BK189.out 1).trans rfl, (zg BK189.out 2).trans rfl, (zg BK189.out 3).trans rfl, (zg BK189.out 4).trans rfl⟩ (fun hHeld => ?_); refine xV yn.tab2 yn.bits2 (fun HT_ HW_ => ?_)
 generalize w21.drew = w22 at HO192 HO201 HO204 BK189 HB hHeld ⊢
 refine zZ (i := 2) (N := some 20) (v := ?_) (a' := ?_) #[ZF,ZF,ZT,ZF,ZF,ZF,ZF,ZF,ZF,ZF,ZF] rfl rfl (zV HT_.out (by kernel_rfl)) (fun _ _ _ h => h) (Or.inl ⟨by rfl, ?_⟩) ?_ ?_
 rotate_left
 ·intro w'
  go_simp
  with_reducible rfl
 rotate_left
 ·simp only [Act.put, Vt, Vu, Vv, zx, zz]
  rfl
 refine zZ (i := 3) (N := some 21) (v := ?_) (a' := ?_) #[ZF,ZF,ZT,ZT,ZF,ZF,ZF,ZF,ZF,ZF,ZF] rfl rfl (zV HT_.out (by kernel_rfl)) (fun _ _ _ h => h) (Or.inl ⟨by rfl, ?_⟩) ?_ ?_
 rotate_left
 ·intro w'
  go_simp
  with_reducible rfl
 rotate_left
 ·simp only [Act.put, Vt, Vu, Vv, zx, zz]
  rfl
 refine take_ (i := 0) (N := some 18) (v := ?_) (a' := ?_) #[ZT,ZF,ZT,ZT,ZF,ZF,ZF,ZF,ZF,ZF,ZF] rfl rfl (yN HT_.out HW_.out (by kernel_rfl)) (fun _ _ _ h => h) (Or.inl ⟨by rfl, ?_⟩) hHeld ?_ ?_
 rotate_left
 ·rintro w' ⟨s0, s1, s2, s3, s4⟩
  go_simp
  with_reducible rfl
 rotate_left
 ·simp only [Act.put, Vt, Vu, Vv, zx, zz]
  rfl
 refine take_ (i := 4) (N := some 22) (v := ?_) (a' := ?_) #[ZT,ZF,ZT,ZT,ZT,ZF,ZF,ZF,ZF,ZF,ZF] rfl rfl (yN HT_.out HW_.out (by kernel_rfl)) (fun _ _ _ h => h) (Or.inl ⟨by rfl, ?_⟩) hHeld ?_ ?_
 rotate_left
 ·rintro w' ⟨s0, s1, s2, s3, s4⟩
  go_simp
  with_reducible rfl
 rotate_left
 ·simp only [Act.put, Vt, Vu, Vv, zx, zz]
  rfl
 refine xC (i := 1) (N := some 19) #[ZT,ZT,ZT,ZT,ZT,ZF,ZF,ZF,ZF,ZF,ZF] rfl rfl (y9 HT_.out (by kernel_rfl)) (by decide) (fun K hK => ?_)
 refine xa Try.func43 (by kernel_rfl) rfl #[.agg #[.int .i64 a0_0, .int .i64 a0_1, .string a0_2, .int .i64 a0_3, .slice A0_4 l0_4.length c0_4]] (by rfl) rfl rfl (by (try simp only [Vw, List.map_cons, List.map_nil]); first | done | rfl | (simp only [List.length_drop, List.length_take]; rfl)) ?_
 with_reducible refine (yT.calls k a0_0 a0_1 a0_2 a0_3 _ _ l0_4 t205 _ ?side1 ?side2 A5.out).mono ?_
 (case side1 => repeat (first | exact (Kd.C_below HR0_4.out HB.out) | (with_reducible refine Kd.C_alloc ?_ _) | (with_reducible refine Kd.C_drewN ?_ _) | (with_reducible refine Kd.C_drew ?_)))
 (case side2 => exact HC0_4.out)
 rintro e w23 ⟨rfl, hb⟩
 refine ⟨_, rfl, ?_⟩
 have n0_ := za.mk (Kd.R_below (by (with_reducible repeat (first | apply Kd.R_alloc | apply Kd.R_drewN | apply Kd.R_drew)); exact HO192.out) hb)
 have n1_ := za.mk (Kd.R_below (by (with_reducible repeat (first | apply Kd.R_alloc | apply Kd.R_drewN | apply Kd.R_drew)); exact HO201.out) hb)
 have n2_ := za.mk (Kd.R_below (by (with_reducible repeat (first | apply Kd.R_alloc | apply Kd.R_drewN | apply Kd.R_drew)); exact HO204.out) hb)
 have n3_ := za.mk (zH (g := gb189) (o := .cells #[.int .i64 a0_0, .int .i64 a0_1, .string a0_2, .int .i64 a0_3, .slice A0_4 l0_4.length c0_4] 27 (0, 0)) (by (with_reducible repeat (first | refine zt ?_ _ | refine zu ?_ | refine zr ?_ _)); exact BK189.out) hb)
 have n4_ := za.mk (zi (by repeat (first | (with_reducible first | exact HB.out | apply zc | apply zb | apply zd | refine zh ?_ GE189.out) | exact HB.out)) hb)
 clear HO192
 clear HO201
 clear HO204
 clear BK189
 clear HB
 have HO192 := n0_
 have HO201 := n1_
 have HO204 := n2_
 have BK189 := n3_
 have HB := n4_
 clear n0_ n1_ n2_ n3_ n4_
 (try clear hb)
 (try clear hb2)
 (try clear hk)
 (try clear hi)
 obtain ⟨Ao24, co24, eo24⟩ := Kd.R_slice HO204.out
 (first | subst eo24 | (injection eo24 with f1_ f2_ f3_; have f4_ := f1_.symm; have f5_ := f3_.symm; clear f1_ f2_ f3_; subst f4_; subst f5_))
 refine hK.out _ _ ⟨(zg BK189.out 0).trans rfl, (zg BK189.out 1).trans rfl, (zg BK189.out 2).trans rfl, (zg BK189.out 3).trans rfl, (zg BK189.out 4).trans rfl⟩ (fun hHeld => ?_)
 clear hK K
 refine yH (a' := ?_) ?_ ?_
 rotate_left
 ·show Act.put _ (some 19) _ = _
  simp only [Act.put, Vt, Vu, Vv, zx, zz]
  rfl
 refine xC (i := 5) (N := some 23) #[ZT,ZT,ZT,ZT,ZT,ZT,ZF,ZF,ZF,ZF,ZF] rfl rfl (y9 HT_.out (by kernel_rfl)) (by decide) (fun K hK => ?_)
 refine xa Try.func44 (by kernel_rfl) rfl #[.slice Ao24 t202.length co24, .slice A0_4 l0_4.length c0_4, .func (Fn.func 45) #[] #[]] (by rfl) rfl rfl (by (try simp only [Vw, List.map_cons, List.map_nil]); first | done | rfl | (simp only [List.length_drop, List.length_take]; rfl)) ?_
 with_reducible refine (yf.calls k (fun k_ => some k_ = (.slice Ao24 t202.length co24 : Value).ownBlock) (.slice Ao24 t202.length co24) t202 _ _ l0_4 t206 w _ ?side1 ?side2 ?side3 ?side4 A6.out).mono ?_
 (case side1 => repeat (first | (with_reducible first | exact HB.out | apply zc | apply zb | apply zd | refine zh ?_ GE189.out) | exact HB.out))
 (case side2 => exact Kd.R_tight rfl HO204.out)
 (case side3 => exact Kd.C_kept_came Jl HR0_4.out (by repeat (first | (with_reducible first | exact HB.out | apply zc | apply zb | apply zd | refine zh ?_ GE189.out) | exact HB.out)) (fun k_ hs_ => (fun e_ => Kd.R_base HO204.out k_ e_.symm) hs_))
 (case side4 => exact HC0_4.out)
 rintro e w25 ⟨v207, rfl, ho0, hb, hkp⟩
 refine ⟨_, rfl, ?_⟩
 have n0_ := za.mk (y6 (by (with_reducible repeat (first | refine zt ?_ _ | refine zu ?_ | refine zr ?_ _)); exact BK189.out) hkp (fun hs_ => (fun e_ => (Kd.R_ne HO204.out BK189.out (by decide)) e_) hs_))
 have n1_ := za.mk (Kd.R_mono (ok' := fun k_ => some k_ ≠ (.slice Ao20 y199.length co20 : Value).ownBlock) (Kd.R_keptB ((Kd.R_apart' HO192.out (Kd.R_typed HO204.out) (by decide))) hkp (fun k_ hk_ hs_ => (hk_.2) hs_)) (fun k_ hk_ => hk_.1.1))
 have n2_ := za.mk (Kd.R_mono (ok' := fun k_ => some k_ ≠ (v191 : Value).ownBlock) (Kd.R_keptB ((Kd.R_apart' HO201.out (Kd.R_typed HO204.out) (by decide))) hkp (fun k_ hk_ hs_ => (hk_.2) hs_)) (fun k_ hk_ => hk_.1.1))
 have n3_ := za.mk (Kd.R_mono (ok' := fun k_ => True) ho0 (fun k_ hk_ => trivial))
 have n4_ := za.mk (hb)
 clear BK189
 clear HO192
 clear HO201
 clear HB
 clear HO204
 have BK189 := n0_
 have HO192 := n1_
 have HO201 := n2_
 have HO208 := n3_
 have HB := n4_
 clear n0_ n1_ n2_ n3_ n4_
 (try clear hb)
 (try clear hkp)
 (try clear ho0)
 obtain ⟨Ao26, co26, eo26⟩ := Kd.R_slice HO208.out
 (first | subst eo26 | (injection eo26 with f1_ f2_ f3_; have f4_ := f1_.symm; have f5_ := f3_.symm; clear f1_ f2_ f3_; subst f4_; subst f5_))
 refine hK.out _ _ ⟨(zg BK189.out 0).trans rfl, (zg BK189.out 1).trans rfl, (zg BK189.out 2).trans rfl, (zg BK189.out 3).trans rfl, (zg BK189.out 4).trans rfl⟩ (fun hHeld => ?_)
 clear hK K
 refine yH (a' := ?_) ?_ ?_
 rotate_left
 ·show Act.put _ (some 23) _ = _
  simp only [Act.put, Vt, Vu, Vv, zx, zz]
  rfl
 refine xC (i := 6) (N := some 24) #[ZT,ZT,ZT,ZT,ZT,ZT,ZT,ZF,ZF,ZF,ZF] rfl rfl (y9 HT_.out (by kernel_rfl)) (by decide) (fun K hK => ?_)
 refine xa Try.func41 (by kernel_rfl) rfl #[.bool t205, .slice Ao26 t206.length co26] (by rfl) rfl rfl (by (try simp only [Vw, List.map_cons, List.map_nil]); first | done | rfl | (simp only [List.length_drop, List.length_take]; rfl)) ?_
 with_reducible refine (yi.calls t205 _ _ t206 t209 t210 _ ?side1 ?side2 A7.out).mono ?_
 (case side1 => repeat (first | exact (Kd.R_reads' HO208.out).2.2 | (with_reducible refine Kd.C_alloc ?_ _) | (with_reducible refine Kd.C_drewN ?_ _) | (with_reducible refine Kd.C_drew ?_)))
 (case side2 => exact (Kd.R_reads' HO208.out).2.1)
 rintro e w' ⟨rfl, ⟨nd, rfl⟩⟩
 refine ⟨_, rfl, ?_⟩
 refine hK.out _ _ ⟨(zg BK189.out 0).trans rfl, (zg BK189.out 1).trans rfl, (zg BK189.out 2).trans rfl, (zg BK189.out 3).trans rfl, (zg BK189.out 4).trans rfl⟩ (fun hHeld => ?_)
 clear hK K
 refine yH (a' := ?_) ?_ ?_
 rotate_left
 ·show Act.put _ (some 24) _ = _
  simp only [Act.put, Vt, Vu, Vv, zx, zz]
  rfl
 refine zZ (i := 7) (N := some 25) (v := ?_) (a' := ?_) #[ZT,ZT,ZT,ZT,ZT,ZT,ZT,ZT,ZF,ZF,ZF] rfl rfl (zV HT_.out (by kernel_rfl)) (fun _ _ _ h => h) (Or.inl ⟨by rfl, ?_⟩) ?_ ?_
 rotate_left
 ·intro w'
  go_simp
  with_reducible rfl
 rotate_left
 ·simp only [Act.put, Vt, Vu, Vv, zx, zz]
  rfl
 refine zZ (i := 8) (N := some 26) (v := ?_) (a' := ?_) #[ZT,ZT,ZT,ZT,ZT,ZT,ZT,ZT,ZT,ZF,ZF] rfl rfl (zV HT_.out (by kernel_rfl)) (fun _ _ _ h => h) (Or.inl ⟨by rfl, ?_⟩) ?_ ?_
 rotate_left
 ·intro w'
  go_simp
  with_reducible rfl
 rotate_left
 ·simp only [Act.put, Vt, Vu, Vv, zx, zz]
  rfl
 refine zZ (i := 9) (N := some 2) (v := ?_) (a' := ?_) #[ZT,ZT,ZT,ZT,ZT,ZT,ZT,ZT,ZT,ZT,ZF] rfl rfl (zV HT_.out (by kernel_rfl)) (fun _ _ _ h => h) (Or.inl ⟨by rfl, ?_⟩) ?_ ?_
 rotate_left
 ·intro w'
  go_simp
  with_reducible rfl
 rotate_left
 ·simp only [Act.put, Vt, Vu, Vv, zx, zz]
  rfl
 refine zZ (i := 10) (N := some 3) (v := ?_) (a' := ?_) #[ZT,ZT,ZT,ZT,ZT,ZT,ZT,ZT,ZT,ZT,ZT] rfl rfl (zV HT_.out (by kernel_rfl)) (fun _ _ _ h => h) (Or.inl ⟨by rfl, ?_⟩) ?_ ?_
 rotate_left
 ·intro w'
  go_simp
  with_reducible rfl
 rotate_left
 ·simp only [Act.put, Vt, Vu, Vv, zx, zz]
  rfl
 refine q4 (qB HT_.out (by kernel_rfl)) ?_
 try go_wp2
 go_ret2
 exact ⟨by first | rfl | (simp [zn, zo] <;> rfl) | (simp [*, zn, zo] <;> rfl), by repeat (first | (with_reducible first | exact HB.out | apply zc | apply zb | apply zd | refine zh ?_ GE189.out) | exact HB.out)⟩
def yF.f (k : Nat) (l0 : List Int) (a1_0 : ByteArray) (a1_1 : Int) (a1_2 : Int) (l1_3 : List Int) : Option (List Int) := (yR.f l0 a1_0).bind fun t359 => ((zD.f k t359 (([a1_1, a1_2] : List Int))).bind fun t365 => ((yy.f t365 l1_3).bind fun t368 => (some t368)))
def yF.T1 : Bool × List (List Nat × List Nat) := (true, [([], []), ([], []), ([1], [1]), ([0, 2], [0, 2]), ([], []), ([4], [4]), ([5], [5]), ([], []), ([7], [7]), ([8], [8]), ([6, 9], [6, 9]), ([3, 10, 3], [3, 10]), ([], []), ([12], [12]), ([13], [13]), ([11, 14, 11], [11, 14]), ([15, 15, 0, 1, 2, 3, 4, 5, 6, 7, 8, 9, 10, 11, 12, 13, 14, 15], [15])])
def yF.B1 : List Nat := [0, 0, 2, 7, 0, 16, 48, 0, 128, 384, 1008, 2047, 0, 4096, 12288, 32767, 65535]
theorem yF.tab1 : xJ .any (vm Try.f56 1) = yF.T1 := by kernel_rfl
theorem yF.bits1 : qe yF.T1.2 yF.B1 = true := by kernel_rfl
theorem yF.calls (k : Nat) (P0_ : Nat → Prop) (u9000_ : Value) (l0 : List Int) (a1_0 : ByteArray) (a1_1 : Int) (a1_2 : Int) (A1_3 : Option Addr) (c1_3 : Nat) (l1_3 : List Int) (r : List Int) (w0 w : World) (hB : Below w0.heap.size w0 w) (ho0 : Kd.R (Kd.int .u8) 5 w w0.heap.size P0_ u9000_ l0) (hr1_3 : ∀ W_, zq w W_ (fun k_ => P0_ k_) → Kd.C (Kd.int .i64) W_ A1_3 l1_3.length l1_3) (hc1_3 : l1_3.length ≤ c1_3) (h : yF.f k l0 a1_0 a1_1 a1_2 l1_3 = some r) :
  Calls Try.prog 56 #[u9000_, .agg #[.string a1_0, .int .i64 a1_1, .int .i64 a1_2, .slice A1_3 l1_3.length c1_3]] w fun e w' => ∃ v0_ : Value, e = .returned (v0_) ∧ Kd.R (Kd.int .u8) 5 w' w0.heap.size (fun k_ => (P0_ k_ ∨ w.heap.size ≤ k_)) v0_ r ∧ Below w0.heap.size w0 w' ∧ zq w w' (fun k_ => P0_ k_) := by
 have hu93 := Try.underlying93
 have HO0 := za.mk (show Kd.R (Kd.int .u8) 5 w w0.heap.size (fun k_ => (P0_ k_ ∨ w.heap.size ≤ k_)) u9000_ l0 from Kd.R_mono ho0 (fun k_ hk => (.inl hk)))
 have HR1_3 := za.mk hr1_3
 have HC1_3 := za.mk hc1_3
 clear hr1_3 hc1_3
 have HK := za.mk (zq.refl w (fun k_ => P0_ k_))
 have HW0 := za.mk hB.size
 have HB := za.mk hB
 clear hB
 have H : ((yR.f l0 a1_0).bind fun t359 => ((zD.f k t359 (([a1_1, a1_2] : List Int))).bind fun t365 => ((yy.f t365 l1_3).bind fun t368 => (some t368)))) = some r := h
 clear h
 replace H := Vx.mp H
 obtain ⟨t359, A30, H⟩ := H
 replace H : ((zD.f k t359 (([a1_1, a1_2] : List Int))).bind fun t365 => ((yy.f t365 l1_3).bind fun t368 => (some t368))) = some r := H
 have A3 := za.mk A30
 clear A30
 obtain ⟨y362, hy362⟩ : ∃ y_ : List Int, y_ = (([a1_1, a1_2] : List Int)) := ⟨_, rfl⟩
 replace H : ((zD.f k t359 y362).bind fun t365 => ((yy.f t365 l1_3).bind fun t368 => (some t368))) = some r := by first | (rw [hy362]; with_reducible exact H) | (have H2_ := (Option.bind_some _ _).symm.trans H; rw [hy362]; with_reducible exact H2_) | (have H2_ := (Option.bind_some _ _).symm.trans H; with_reducible exact H2_) | with_reducible exact H | (rw [hy362]; exact H) | exact H
 have Ny362 := za.mk hy362
 clear hy362
 replace H := Vx.mp H
 obtain ⟨t365, A40, H⟩ := H
 replace H : ((yy.f t365 l1_3).bind fun t368 => (some t368)) = some r := H
 have A4 := za.mk A40
 clear A40
 replace H := Vx.mp H
 obtain ⟨t368, A50, H⟩ := H
 replace H : (some t368) = some r := H
 have A5 := za.mk A50
 clear A50
 obtain rfl := Option.some.inj H
 go_enter Try.func56, Try.ntmps56
 try go_wp2_with (first | ((with_reducible refine zC (N := 3) rfl ?_); refine zF ?hg (N := 3) ?hd (cs := #[.string a1_0, .int .i64 a1_1, .int .i64 a1_2, .slice A1_3 l1_3.length c1_3]) (t := 93) ?hr ?_; (case hd => rfl); (case hg => rfl); (case hr => first | (go_simp; done) | (go_simp; rfl)); intro gb358 hg w6 hbox hb; have n0_ := za.mk (Kd.R_below (by (with_reducible repeat (first | apply Kd.R_alloc | apply Kd.R_drewN | apply Kd.R_drew)); exact HO0.out) hb); have n1_ := za.mk (zq.below (S := (fun k_ => P0_ k_)) (by repeat (first | (with_reducible first | exact HK.out | apply zq.alloc | apply zq.drewN | apply zq.drew) | exact HK.out)) hb); have n2_ := za.mk (zi (by repeat (first | (with_reducible first | exact HB.out | apply zc | apply zb | apply zd) | exact HB.out)) hb); have n3_ := za.mk (hbox); have n4_ := za.mk ((by rw [hg]; exact (by first | exact HK.out.1 | exact (show zq w _ (fun k_ => P0_ k_) from by repeat (first | (with_reducible first | exact HK.out | apply zq.alloc | apply zq.drewN | apply zq.drew) | exact HK.out)).1) : w.heap.size ≤ gb358)); have n5_ := za.mk ((by rw [hg]; exact (zp (by repeat (first | (with_reducible first | exact HB.out | apply zc | apply zb | apply zd) | exact HB.out))) : w0.heap.size ≤ gb358)); clear HO0; clear HK; clear HB; have HO0 := n0_; have HK := n1_; have HB := n2_; have BK358 := n3_; have GW358 := n4_; have GE358 := n5_; clear n0_ n1_ n2_ n3_ n4_ n5_; clear hb hbox hg; obtain ⟨Ao7, co7, eo7⟩ := Kd.R_slice HO0.out; subst eo7))
 have n0_ := za.mk (Kd.R_drew HO0.out)
 have n1_ := za.mk (zu BK358.out)
 have n2_ := za.mk (zq.drew HK.out)
 have n3_ := za.mk (zd HB.out)
 clear HO0
 clear BK358
 clear HK
 clear HB
 have HO0 := n0_
 have BK358 := n1_
 have HK := n2_
 have HB := n3_
 clear n0_ n1_ n2_ n3_
 refine qF (n := 17) (S := fun w' => w'.cell? ⟨gb358, 0, none⟩ = some (.string a1_0) ∧ w'.cell? ⟨gb358, 1, none⟩ = some (.int .i64 a1_1) ∧ w'.cell? ⟨gb358, 2, none⟩ = some (.int .i64 a1_2) ∧ w'.cell? ⟨gb358, 3, none⟩ = some (.slice A1_3 l1_3.length c1_3)) (ds := []) #[ZF,ZF,ZF,ZF,ZF,ZF,ZF,ZF,ZF,ZF,ZF,ZF,ZF,ZF,ZF,ZF,ZF] (by kernel_rfl) rfl rfl ⟨(zg BK358.out 0).trans rfl, (zg BK358.out 1).trans rfl, (zg BK358.out 2).trans rfl, (zg BK358.out 3).trans rfl⟩ (fun hHeld => ?_); refine xV yF.tab1 yF.bits1 (fun HT_ HW_ => ?_)
 generalize w6.drew = w8 at HO0 BK358 HK HB hHeld ⊢
 refine zZ (i := 0) (N := some 5) (v := ?_) (a' := ?_) #[ZT,ZF,ZF,ZF,ZF,ZF,ZF,ZF,ZF,ZF,ZF,ZF,ZF,ZF,ZF,ZF,ZF] rfl rfl (zV HT_.out (by kernel_rfl)) (fun _ _ _ h => h) (Or.inl ⟨by rfl, ?_⟩) ?_ ?_
 rotate_left
 ·intro w'
  go_simp
  with_reducible rfl
 rotate_left
 ·simp only [Act.put, Vt, Vu, Vv, zx, zz]
  rfl
 refine zZ (i := 1) (N := some 6) (v := ?_) (a' := ?_) #[ZT,ZT,ZF,ZF,ZF,ZF,ZF,ZF,ZF,ZF,ZF,ZF,ZF,ZF,ZF,ZF,ZF] rfl rfl (zV HT_.out (by kernel_rfl)) (fun _ _ _ h => h) (Or.inl ⟨by rfl, ?_⟩) ?_ ?_
 rotate_left
 ·intro w'
  go_simp
  with_reducible rfl
 rotate_left
 ·simp only [Act.put, Vt, Vu, Vv, zx, zz]
  rfl
 refine zZ (i := 4) (N := some 9) (v := ?_) (a' := ?_) #[ZT,ZT,ZF,ZF,ZT,ZF,ZF,ZF,ZF,ZF,ZF,ZF,ZF,ZF,ZF,ZF,ZF] rfl rfl (zV HT_.out (by kernel_rfl)) (fun _ _ _ h => h) (Or.inl ⟨by rfl, ?_⟩) ?_ ?_
 rotate_left
 ·intro w'
  go_simp
  with_reducible rfl
 rotate_left
 ·simp only [Act.put, Vt, Vu, Vv, zx, zz]
  rfl
 refine zZ (i := 5) (N := some 10) (v := ?_) (a' := ?_) #[ZT,ZT,ZF,ZF,ZT,ZT,ZF,ZF,ZF,ZF,ZF,ZF,ZF,ZF,ZF,ZF,ZF] rfl rfl (zV HT_.out (by kernel_rfl)) (fun _ _ _ h => h) (Or.inl ⟨by rfl, ?_⟩) ?_ ?_
 rotate_left
 ·intro w'
  go_simp
  with_reducible rfl
 rotate_left
 ·simp only [Act.put, Vt, Vu, Vv, zx, zz]
  rfl
 refine zZ (i := 7) (N := some 12) (v := ?_) (a' := ?_) #[ZT,ZT,ZF,ZF,ZT,ZT,ZF,ZT,ZF,ZF,ZF,ZF,ZF,ZF,ZF,ZF,ZF] rfl rfl (zV HT_.out (by kernel_rfl)) (fun _ _ _ h => h) (Or.inl ⟨by rfl, ?_⟩) ?_ ?_
 rotate_left
 ·intro w'
  go_simp
  with_reducible rfl
 rotate_left
 ·simp only [Act.put, Vt, Vu, Vv, zx, zz]
  rfl
 refine zZ (i := 8) (N := some 13) (v := ?_) (a' := ?_) #[ZT,ZT,ZF,ZF,ZT,ZT,ZF,ZT,ZT,ZF,ZF,ZF,ZF,ZF,ZF,ZF,ZF] rfl rfl (zV HT_.out (by kernel_rfl)) (fun _ _ _ h => h) (Or.inl ⟨by rfl, ?_⟩) ?_ ?_
 rotate_left
 ·intro w'
  go_simp
  with_reducible rfl
 rotate_left
 ·simp only [Act.put, Vt, Vu, Vv, zx, zz]
  rfl
 refine zZ (i := 12) (N := some 17) (v := ?_) (a' := ?_) #[ZT,ZT,ZF,ZF,ZT,ZT,ZF,ZT,ZT,ZF,ZF,ZF,ZT,ZF,ZF,ZF,ZF] rfl rfl (zV HT_.out (by kernel_rfl)) (fun _ _ _ h => h) (Or.inl ⟨by rfl, ?_⟩) ?_ ?_
 rotate_left
 ·intro w'
  go_simp
  with_reducible rfl
 rotate_left
 ·simp only [Act.put, Vt, Vu, Vv, zx, zz]
  rfl
 refine zZ (i := 13) (N := some 18) (v := ?_) (a' := ?_) #[ZT,ZT,ZF,ZF,ZT,ZT,ZF,ZT,ZT,ZF,ZF,ZF,ZT,ZT,ZF,ZF,ZF] rfl rfl (zV HT_.out (by kernel_rfl)) (fun _ _ _ h => h) (Or.inl ⟨by rfl, ?_⟩) ?_ ?_
 rotate_left
 ·intro w'
  go_simp
  with_reducible rfl
 rotate_left
 ·simp only [Act.put, Vt, Vu, Vv, zx, zz]
  rfl
 refine take_ (i := 2) (N := some 7) (v := ?_) (a' := ?_) #[ZT,ZT,ZT,ZF,ZT,ZT,ZF,ZT,ZT,ZF,ZF,ZF,ZT,ZT,ZF,ZF,ZF] rfl rfl (yN HT_.out HW_.out (by kernel_rfl)) (fun _ _ _ h => h) (Or.inl ⟨by rfl, ?_⟩) hHeld ?_ ?_
 rotate_left
 ·rintro w' ⟨s0, s1, s2, s3⟩
  go_simp
  with_reducible rfl
 rotate_left
 ·simp only [Act.put, Vt, Vu, Vv, zx, zz]
  rfl
 refine take_ (i := 6) (N := some 11) (v := ?_) (a' := ?_) #[ZT,ZT,ZT,ZF,ZT,ZT,ZT,ZT,ZT,ZF,ZF,ZF,ZT,ZT,ZF,ZF,ZF] rfl rfl (yN HT_.out HW_.out (by kernel_rfl)) (fun _ _ _ h => h) (Or.inl ⟨by rfl, ?_⟩) hHeld ?_ ?_
 rotate_left
 ·rintro w' ⟨s0, s1, s2, s3⟩
  go_simp
  with_reducible rfl
 rotate_left
 ·simp only [Act.put, Vt, Vu, Vv, zx, zz]
  rfl
 refine take_ (i := 9) (N := some 14) (v := ?_) (a' := ?_) #[ZT,ZT,ZT,ZF,ZT,ZT,ZT,ZT,ZT,ZT,ZF,ZF,ZT,ZT,ZF,ZF,ZF] rfl rfl (yN HT_.out HW_.out (by kernel_rfl)) (fun _ _ _ h => h) (Or.inl ⟨by rfl, ?_⟩) hHeld ?_ ?_
 rotate_left
 ·rintro w' ⟨s0, s1, s2, s3⟩
  go_simp
  with_reducible rfl
 rotate_left
 ·simp only [Act.put, Vt, Vu, Vv, zx, zz]
  rfl
 refine take_ (i := 14) (N := some 19) (v := ?_) (a' := ?_) #[ZT,ZT,ZT,ZF,ZT,ZT,ZT,ZT,ZT,ZT,ZF,ZF,ZT,ZT,ZT,ZF,ZF] rfl rfl (yN HT_.out HW_.out (by kernel_rfl)) (fun _ _ _ h => h) (Or.inl ⟨by rfl, ?_⟩) hHeld ?_ ?_
 rotate_left
 ·rintro w' ⟨s0, s1, s2, s3⟩
  go_simp
  with_reducible rfl
 rotate_left
 ·simp only [Act.put, Vt, Vu, Vv, zx, zz]
  rfl
 refine X7 (σ := Value × Value) 3 #[ZT,ZT,ZT,ZT,ZT,ZT,ZT,ZT,ZT,ZT,ZT,ZF,ZT,ZT,ZT,ZF,ZF] (fun s_ => [(8, s_.1), (15, s_.2)]) (fun s_ w' => (w'.cell? ⟨gb358, 0, none⟩ = some (.string a1_0) ∧ w'.cell? ⟨gb358, 1, none⟩ = some (.int .i64 a1_1) ∧ w'.cell? ⟨gb358, 2, none⟩ = some (.int .i64 a1_2) ∧ w'.cell? ⟨gb358, 3, none⟩ = some (.slice A1_3 l1_3.length c1_3)) ∧ (Kd.R (Kd.int .u8) 5 w' w0.heap.size (fun k_ => (P0_ k_ ∨ w.heap.size ≤ k_)) s_.1 t359) ∧ (Kd.R (Kd.int .i64) 3 w' w0.heap.size (fun k_ => (P0_ k_ ∨ w.heap.size ≤ k_)) s_.2 y362) ∧ (w'.heap[gb358]? = some (.cells #[.string a1_0, .int .i64 a1_1, .int .i64 a1_2, .slice A1_3 l1_3.length c1_3] 93 (0, 0))) ∧ (zq w w' (fun k_ => P0_ k_)) ∧ (Below w0.heap.size w0 w')) ?_ ?_
 rotate_left
 ·intro hCont
  refine Xq (i := 3) (j := 10) (Ni := some 8) (Nj := some 15) #[ZT,ZT,ZT,ZT,ZT,ZT,ZT,ZT,ZT,ZT,ZF,ZF,ZT,ZT,ZT,ZF,ZF] #[ZT,ZT,ZT,ZF,ZT,ZT,ZT,ZT,ZT,ZT,ZT,ZF,ZT,ZT,ZT,ZF,ZF] rfl rfl rfl rfl (vZ HT_.out (by kernel_rfl)) (by decide) (by decide) (fun K hK => ?_) (fun K hK => ?_)
  ·skip
   refine xa Try.func38 (by kernel_rfl) rfl #[.slice Ao7 l0.length co7, .string a1_0] (by rfl) rfl rfl (by (try simp only [Vw, List.map_cons, List.map_nil]); first | done | rfl | (simp only [List.length_drop, List.length_take]; rfl)) ?_
   with_reducible refine (yR.calls (fun k_ => some k_ = (.slice Ao7 l0.length co7 : Value).ownBlock) (.slice Ao7 l0.length co7) l0 a1_0 t359 w0 _ ?side1 ?side2 A3.out).mono ?_
   (case side1 => repeat (first | (with_reducible first | exact HB.out | apply zc | apply zb | apply zd | refine zh ?_ GE358.out) | exact HB.out))
   (case side2 => exact Kd.R_tight rfl HO0.out)
   rintro e w9 ⟨v360, rfl, ho0, hb, hkp⟩
   refine ⟨_, rfl, ?_⟩
   have n0_ := za.mk (y6 (by (with_reducible repeat (first | refine zt ?_ _ | refine zu ?_ | refine zr ?_ _)); exact BK358.out) hkp (fun hs_ => (fun e_ => (Kd.R_ne HO0.out BK358.out (by decide)) e_) hs_))
   have n1_ := za.mk (Kd.R_mono (ok' := fun k_ => (P0_ k_ ∨ w.heap.size ≤ k_)) ho0 (fun k_ hk_ => Or.elim hk_ (fun hs_ => (HO0.out.1 k_ (hs_).symm)) (fun hn_ => (.inr (Nat.le_trans (by first | exact HK.out.1 | exact (show zq w _ (fun k_ => P0_ k_) from by repeat (first | (with_reducible first | exact HK.out | apply zq.alloc | apply zq.drewN | apply zq.drew | refine zq.setCell ?_ (.inr GW358.out) _) | exact HK.out)).1) hn_)))))
   have n2_ := za.mk (zq.then_ (S := (fun k_ => P0_ k_)) (by repeat (first | (with_reducible first | exact HK.out | apply zq.alloc | apply zq.drewN | apply zq.drew | refine zq.setCell ?_ (.inr GW358.out) _) | exact HK.out)) hkp (fun k_ hs_ => (fun e_ => (HO0.out.1 k_ e_.symm)) hs_))
   have n3_ := za.mk (hb)
   clear BK358
   clear HK
   clear HB
   clear HO0
   have BK358 := n0_
   have HO361 := n1_
   have HK := n2_
   have HB := n3_
   clear n0_ n1_ n2_ n3_
   (try clear hb)
   (try clear hkp)
   (try clear ho0)
   refine hK.out _ _ ⟨(zg BK358.out 0).trans rfl, (zg BK358.out 1).trans rfl, (zg BK358.out 2).trans rfl, (zg BK358.out 3).trans rfl⟩ (fun hHeld => ?_)
   clear hK K
   refine yH (a' := ?_) ?_ ?_
   rotate_left
   ·show Act.put _ (some 8) _ = _
    simp only [Act.put, Vt, Vu, Vv, zx, zz]
    rfl
   refine xC (i := 10) (N := some 15) #[ZT,ZT,ZT,ZT,ZT,ZT,ZT,ZT,ZT,ZT,ZT,ZF,ZT,ZT,ZT,ZF,ZF] rfl rfl (y9 HT_.out (by kernel_rfl)) (by decide) (fun K hK => ?_)
   refine Kd.R_lit_step (Kd.int .i64) _ 3 ?hg (N := 15) ?hd (xs := ([a1_1, a1_2] : List Int)) (inner := [.int .i64 a1_1, .int .i64 a1_2]) (ok := fun _ => True) (okp := fun _ => True) ?hr ?hp (fun _ hk => hk) trivial (Below.refl _ _) (Nat.le_refl _) (by simp) ?_; (case hd => rfl); (case hg => rfl); (case hr => first | (go_simp; done) | (go_simp; rfl)); (case hp => exact (yh.one (show Kd.M (Kd.int .i64) _ _ _ a1_1 [.int .i64 a1_1] from rfl) (yh.one (show Kd.M (Kd.int .i64) _ _ _ a1_2 [.int .i64 a1_2] from rfl) (yh.none _ _))))
   intro v363 w10 ho11 hb hg_ hnew_
   clear hg_ hnew_
   (first | rw [← Ny362.out] at ho11 | (simp only [Int.reduceToNat] at ho11; rw [← Ny362.out] at ho11))
   have n0_ := za.mk (Kd.R_below (by (with_reducible repeat (first | apply Kd.R_alloc | apply Kd.R_drewN | apply Kd.R_drew)); exact HO361.out) hb)
   have n1_ := za.mk (Kd.R_lower (Kd.R_newM (M := fun k_ => (P0_ k_ ∨ w.heap.size ≤ k_)) ho11 (by first | exact HK.out.1 | exact (show zq w _ (fun k_ => P0_ k_) from by repeat (first | (with_reducible first | exact HK.out | apply zq.alloc | apply zq.drewN | apply zq.drew | refine zq.setCell ?_ (.inr GW358.out) _) | exact HK.out)).1) (fun k_ h_ => .inr h_)) (zp (by repeat (first | (with_reducible first | exact HB.out | apply zc | apply zb | apply zd | refine zh ?_ GE358.out) | exact HB.out))))
   have n2_ := za.mk (zH (g := gb358) (o := .cells #[.string a1_0, .int .i64 a1_1, .int .i64 a1_2, .slice A1_3 l1_3.length c1_3] 93 (0, 0)) (by (with_reducible repeat (first | refine zt ?_ _ | refine zu ?_ | refine zr ?_ _)); exact BK358.out) hb)
   have n3_ := za.mk (zq.below (S := (fun k_ => P0_ k_)) (by repeat (first | (with_reducible first | exact HK.out | apply zq.alloc | apply zq.drewN | apply zq.drew | refine zq.setCell ?_ (.inr GW358.out) _) | exact HK.out)) hb)
   have n4_ := za.mk (zi (by repeat (first | (with_reducible first | exact HB.out | apply zc | apply zb | apply zd | refine zh ?_ GE358.out) | exact HB.out)) hb)
   clear HO361
   clear BK358
   clear HK
   clear HB
   have HO361 := n0_
   have HO364 := n1_
   have BK358 := n2_
   have HK := n3_
   have HB := n4_
   clear n0_ n1_ n2_ n3_ n4_
   clear hb ho11
   refine hK.out _ _ ⟨(zg BK358.out 0).trans rfl, (zg BK358.out 1).trans rfl, (zg BK358.out 2).trans rfl, (zg BK358.out 3).trans rfl⟩ (fun hHeld => ?_)
   clear hK K
   refine yH (a' := ?_) ?_ ?_
   rotate_left
   ·show Act.put _ (some 15) _ = _
    simp only [Act.put, Vt, Vu, Vv, zx, zz]
    rfl
   exact yH (by simp only [qk, Act.put, Vt, Vu, Vv]) (hCont (v360, v363) _ ⟨hHeld, (by (with_reducible repeat (first | apply Kd.R_alloc | apply Kd.R_drewN | apply Kd.R_drew)); exact HO361.out), (by (with_reducible repeat (first | apply Kd.R_alloc | apply Kd.R_drewN | apply Kd.R_drew)); exact Kd.R_mono HO364.out (fun _ hk => hk.1)), (by (with_reducible repeat (first | refine zt ?_ _ | refine zu ?_ | refine zr ?_ _)); exact BK358.out), (by repeat (first | (with_reducible first | exact HK.out | apply zq.alloc | apply zq.drewN | apply zq.drew | refine zq.setCell ?_ (.inr GW358.out) _) | exact HK.out)), (by repeat (first | (with_reducible first | exact HB.out | apply zc | apply zb | apply zd | refine zh ?_ GE358.out) | exact HB.out))⟩)
  ·skip
   refine Kd.R_lit_step (Kd.int .i64) _ 3 ?hg (N := 15) ?hd (xs := ([a1_1, a1_2] : List Int)) (inner := [.int .i64 a1_1, .int .i64 a1_2]) (ok := fun _ => True) (okp := fun _ => True) ?hr ?hp (fun _ hk => hk) trivial (Below.refl _ _) (Nat.le_refl _) (by simp) ?_; (case hd => rfl); (case hg => rfl); (case hr => first | (go_simp; done) | (go_simp; rfl)); (case hp => exact (yh.one (show Kd.M (Kd.int .i64) _ _ _ a1_1 [.int .i64 a1_1] from rfl) (yh.one (show Kd.M (Kd.int .i64) _ _ _ a1_2 [.int .i64 a1_2] from rfl) (yh.none _ _))))
   intro v363 w9 ho10 hb hg_ hnew_
   clear hg_ hnew_
   (first | rw [← Ny362.out] at ho10 | (simp only [Int.reduceToNat] at ho10; rw [← Ny362.out] at ho10))
   have n0_ := za.mk (Kd.R_below (by (with_reducible repeat (first | apply Kd.R_alloc | apply Kd.R_drewN | apply Kd.R_drew)); exact HO0.out) hb)
   have n1_ := za.mk (Kd.R_lower (Kd.R_newM (M := fun k_ => (P0_ k_ ∨ w.heap.size ≤ k_)) ho10 (by first | exact HK.out.1 | exact (show zq w _ (fun k_ => P0_ k_) from by repeat (first | (with_reducible first | exact HK.out | apply zq.alloc | apply zq.drewN | apply zq.drew | refine zq.setCell ?_ (.inr GW358.out) _) | exact HK.out)).1) (fun k_ h_ => .inr h_)) (zp (by repeat (first | (with_reducible first | exact HB.out | apply zc | apply zb | apply zd | refine zh ?_ GE358.out) | exact HB.out))))
   have n2_ := za.mk (zH (g := gb358) (o := .cells #[.string a1_0, .int .i64 a1_1, .int .i64 a1_2, .slice A1_3 l1_3.length c1_3] 93 (0, 0)) (by (with_reducible repeat (first | refine zt ?_ _ | refine zu ?_ | refine zr ?_ _)); exact BK358.out) hb)
   have n3_ := za.mk (zq.below (S := (fun k_ => P0_ k_)) (by repeat (first | (with_reducible first | exact HK.out | apply zq.alloc | apply zq.drewN | apply zq.drew | refine zq.setCell ?_ (.inr GW358.out) _) | exact HK.out)) hb)
   have n4_ := za.mk (zi (by repeat (first | (with_reducible first | exact HB.out | apply zc | apply zb | apply zd | refine zh ?_ GE358.out) | exact HB.out)) hb)
   clear HO0
   clear BK358
   clear HK
   clear HB
   have HO0 := n0_
   have HO364 := n1_
   have BK358 := n2_
   have HK := n3_
   have HB := n4_
   clear n0_ n1_ n2_ n3_ n4_
   clear hb ho10
   refine hK.out _ _ ⟨(zg BK358.out 0).trans rfl, (zg BK358.out 1).trans rfl, (zg BK358.out 2).trans rfl, (zg BK358.out 3).trans rfl⟩ (fun hHeld => ?_)
   clear hK K
   refine yH (a' := ?_) ?_ ?_
   rotate_left
   ·show Act.put _ (some 15) _ = _
    simp only [Act.put, Vt, Vu, Vv, zx, zz]
    rfl
   refine xC (i := 3) (N := some 8) #[ZT,ZT,ZT,ZT,ZT,ZT,ZT,ZT,ZT,ZT,ZT,ZF,ZT,ZT,ZT,ZF,ZF] rfl rfl (y9 HT_.out (by kernel_rfl)) (by decide) (fun K hK => ?_)
   refine xa Try.func38 (by kernel_rfl) rfl #[.slice Ao7 l0.length co7, .string a1_0] (by rfl) rfl rfl (by (try simp only [Vw, List.map_cons, List.map_nil]); first | done | rfl | (simp only [List.length_drop, List.length_take]; rfl)) ?_
   with_reducible refine (yR.calls (fun k_ => some k_ = (.slice Ao7 l0.length co7 : Value).ownBlock) (.slice Ao7 l0.length co7) l0 a1_0 t359 w0 _ ?side1 ?side2 A3.out).mono ?_
   (case side1 => repeat (first | (with_reducible first | exact HB.out | apply zc | apply zb | apply zd | refine zh ?_ GE358.out) | exact HB.out))
   (case side2 => exact Kd.R_tight rfl HO0.out)
   rintro e w11 ⟨v360, rfl, ho0, hb, hkp⟩
   refine ⟨_, rfl, ?_⟩
   have n0_ := za.mk (y6 (by (with_reducible repeat (first | refine zt ?_ _ | refine zu ?_ | refine zr ?_ _)); exact BK358.out) hkp (fun hs_ => (fun e_ => (Kd.R_ne HO0.out BK358.out (by decide)) e_) hs_))
   have n1_ := za.mk (Kd.R_mono (ok' := fun k_ => (P0_ k_ ∨ w.heap.size ≤ k_)) (Kd.R_keptB ((Kd.R_apart' HO364.out (Kd.R_typed HO0.out) (by decide))) hkp (fun k_ hk_ hs_ => (hk_.2) hs_)) (fun k_ hk_ => hk_.1.1.1))
   have n2_ := za.mk (Kd.R_mono (ok' := fun k_ => (P0_ k_ ∨ w.heap.size ≤ k_)) ho0 (fun k_ hk_ => Or.elim hk_ (fun hs_ => (HO0.out.1 k_ (hs_).symm)) (fun hn_ => (.inr (Nat.le_trans (by first | exact HK.out.1 | exact (show zq w _ (fun k_ => P0_ k_) from by repeat (first | (with_reducible first | exact HK.out | apply zq.alloc | apply zq.drewN | apply zq.drew | refine zq.setCell ?_ (.inr GW358.out) _) | exact HK.out)).1) hn_)))))
   have n3_ := za.mk (zq.then_ (S := (fun k_ => P0_ k_)) (by repeat (first | (with_reducible first | exact HK.out | apply zq.alloc | apply zq.drewN | apply zq.drew | refine zq.setCell ?_ (.inr GW358.out) _) | exact HK.out)) hkp (fun k_ hs_ => (fun e_ => (HO0.out.1 k_ e_.symm)) hs_))
   have n4_ := za.mk (hb)
   clear BK358
   clear HO364
   clear HK
   clear HB
   clear HO0
   have BK358 := n0_
   have HO364 := n1_
   have HO361 := n2_
   have HK := n3_
   have HB := n4_
   clear n0_ n1_ n2_ n3_ n4_
   (try clear hb)
   (try clear hkp)
   (try clear ho0)
   refine hK.out _ _ ⟨(zg BK358.out 0).trans rfl, (zg BK358.out 1).trans rfl, (zg BK358.out 2).trans rfl, (zg BK358.out 3).trans rfl⟩ (fun hHeld => ?_)
   clear hK K
   refine yH (a' := ?_) ?_ ?_
   rotate_left
   ·show Act.put _ (some 8) _ = _
    simp only [Act.put, Vt, Vu, Vv, zx, zz]
    rfl
   exact yH (by simp only [qk, Act.put, Vt, Vu, Vv]) (hCont (v360, v363) _ ⟨hHeld, (by (with_reducible repeat (first | apply Kd.R_alloc | apply Kd.R_drewN | apply Kd.R_drew)); exact HO361.out), (by (with_reducible repeat (first | apply Kd.R_alloc | apply Kd.R_drewN | apply Kd.R_drew)); exact HO364.out), (by (with_reducible repeat (first | refine zt ?_ _ | refine zu ?_ | refine zr ?_ _)); exact BK358.out), (by repeat (first | (with_reducible first | exact HK.out | apply zq.alloc | apply zq.drewN | apply zq.drew | refine zq.setCell ?_ (.inr GW358.out) _) | exact HK.out)), (by repeat (first | (with_reducible first | exact HB.out | apply zc | apply zb | apply zd | refine zh ?_ GE358.out) | exact HB.out))⟩)
 rintro ⟨v360, v363⟩ w12 ⟨hS_, h0_, h1_, h2_, h3_, h4_⟩
 have n0_ : za (Kd.R (Kd.int .u8) 5 w12 w0.heap.size (fun k_ => (P0_ k_ ∨ w.heap.size ≤ k_)) v360 t359) := ⟨h0_⟩
 have n1_ : za (Kd.R (Kd.int .i64) 3 w12 w0.heap.size (fun k_ => (P0_ k_ ∨ w.heap.size ≤ k_)) v363 y362) := ⟨h1_⟩
 have n2_ : za (w12.heap[gb358]? = some (.cells #[.string a1_0, .int .i64 a1_1, .int .i64 a1_2, .slice A1_3 l1_3.length c1_3] 93 (0, 0))) := ⟨h2_⟩
 have n3_ : za (zq w w12 (fun k_ => P0_ k_)) := ⟨h3_⟩
 have n4_ : za (Below w0.heap.size w0 w12) := ⟨h4_⟩
 clear HO0
 clear BK358
 clear HK
 clear HB
 clear h0_ h1_ h2_ h3_ h4_
 have HO361 := n0_
 have HO364 := n1_
 have BK358 := n2_
 have HK := n3_
 have HB := n4_
 clear n0_ n1_ n2_ n3_ n4_
 have hHeld : w12.cell? ⟨gb358, 0, none⟩ = some (.string a1_0) ∧ w12.cell? ⟨gb358, 1, none⟩ = some (.int .i64 a1_1) ∧ w12.cell? ⟨gb358, 2, none⟩ = some (.int .i64 a1_2) ∧ w12.cell? ⟨gb358, 3, none⟩ = some (.slice A1_3 l1_3.length c1_3) := hS_
 obtain ⟨Ao13, co13, eo13⟩ := Kd.R_slice HO361.out
 (first | subst eo13 | (injection eo13 with f1_ f2_ f3_; have f4_ := f1_.symm; have f5_ := f3_.symm; clear f1_ f2_ f3_; subst f4_; subst f5_))
 obtain ⟨Ao14, co14, eo14⟩ := Kd.R_slice HO364.out
 (first | subst eo14 | (injection eo14 with f1_ f2_ f3_; have f4_ := f1_.symm; have f5_ := f3_.symm; clear f1_ f2_ f3_; subst f4_; subst f5_))
 refine yH (a' := ?_) ?_ ?_
 rotate_left
 ·simp only [qk, Act.put, Vt, Vu, Vv]
  rfl
 refine xC (i := 11) (N := some 16) #[ZT,ZT,ZT,ZT,ZT,ZT,ZT,ZT,ZT,ZT,ZT,ZT,ZT,ZT,ZT,ZF,ZF] rfl rfl (y9 HT_.out (by kernel_rfl)) (by decide) (fun K hK => ?_)
 refine xa Try.func39 (by kernel_rfl) rfl #[.slice Ao13 t359.length co13, .slice Ao14 y362.length co14] (by rfl) rfl rfl (by (try simp only [Vw, List.map_cons, List.map_nil]); first | done | rfl | (simp only [List.length_drop, List.length_take]; rfl)) ?_
 with_reducible refine (zD.calls k (fun k_ => some k_ = (.slice Ao13 t359.length co13 : Value).ownBlock) (.slice Ao13 t359.length co13) t359 _ _ y362 t365 w0 _ ?side1 ?side2 ?side3 ?side4 A4.out).mono ?_
 (case side1 => repeat (first | (with_reducible first | exact HB.out | apply zc | apply zb | apply zd | refine zh ?_ GE358.out) | exact HB.out))
 (case side2 => exact Kd.R_tight rfl HO361.out)
 (case side3 => exact Kd.C_kept_own ((Kd.R_apart' HO364.out (Kd.R_typed HO361.out) (by decide))) (fun k_ hk_ hs_ => (hk_.2) hs_))
 (case side4 => exact (Kd.R_reads' HO364.out).2.1)
 rintro e w15 ⟨v366, rfl, ho0, hb, hkp⟩
 refine ⟨_, rfl, ?_⟩
 have n0_ := za.mk (y6 (by (with_reducible repeat (first | refine zt ?_ _ | refine zu ?_ | refine zr ?_ _)); exact BK358.out) hkp (fun hs_ => (fun e_ => (Kd.R_ne HO361.out BK358.out (by decide)) e_) hs_))
 have n1_ := za.mk (Kd.R_mono (ok' := fun k_ => (P0_ k_ ∨ w.heap.size ≤ k_)) (Kd.R_keptB ((Kd.R_apart' HO364.out (Kd.R_typed HO361.out) (by decide))) hkp (fun k_ hk_ hs_ => (hk_.2) hs_)) (fun k_ hk_ => hk_.1.1))
 have n2_ := za.mk (Kd.R_mono (ok' := fun k_ => (P0_ k_ ∨ w.heap.size ≤ k_)) ho0 (fun k_ hk_ => Or.elim hk_ (fun hs_ => (HO361.out.1 k_ (hs_).symm)) (fun hn_ => (.inr (Nat.le_trans (by first | exact HK.out.1 | exact (show zq w _ (fun k_ => P0_ k_) from by repeat (first | (with_reducible first | exact HK.out | apply zq.alloc | apply zq.drewN | apply zq.drew | refine zq.setCell ?_ (.inr GW358.out) _) | exact HK.out)).1) hn_)))))
 have n3_ := za.mk (zq.then_ (S := (fun k_ => P0_ k_)) (by repeat (first | (with_reducible first | exact HK.out | apply zq.alloc | apply zq.drewN | apply zq.drew | refine zq.setCell ?_ (.inr GW358.out) _) | exact HK.out)) hkp (fun k_ hs_ => (fun e_ => (HO361.out.1 k_ e_.symm)) hs_))
 have n4_ := za.mk (hb)
 clear BK358
 clear HO364
 clear HK
 clear HB
 clear HO361
 have BK358 := n0_
 have HO364 := n1_
 have HO367 := n2_
 have HK := n3_
 have HB := n4_
 clear n0_ n1_ n2_ n3_ n4_
 (try clear hb)
 (try clear hkp)
 (try clear ho0)
 obtain ⟨Ao16, co16, eo16⟩ := Kd.R_slice HO367.out
 (first | subst eo16 | (injection eo16 with f1_ f2_ f3_; have f4_ := f1_.symm; have f5_ := f3_.symm; clear f1_ f2_ f3_; subst f4_; subst f5_))
 refine hK.out _ _ ⟨(zg BK358.out 0).trans rfl, (zg BK358.out 1).trans rfl, (zg BK358.out 2).trans rfl, (zg BK358.out 3).trans rfl⟩ (fun hHeld => ?_)
 clear hK K
 refine yH (a' := ?_) ?_ ?_
 rotate_left
 ·show Act.put _ (some 16) _ = _
  simp only [Act.put, Vt, Vu, Vv, zx, zz]
  rfl
 refine xC (i := 15) (N := some 20) #[ZT,ZT,ZT,ZT,ZT,ZT,ZT,ZT,ZT,ZT,ZT,ZT,ZT,ZT,ZT,ZT,ZF] rfl rfl (y9 HT_.out (by kernel_rfl)) (by decide) (fun K hK => ?_)
 refine xa Try.func40 (by kernel_rfl) rfl #[.slice Ao16 t365.length co16, .slice A1_3 l1_3.length c1_3] (by rfl) rfl rfl (by (try simp only [Vw, List.map_cons, List.map_nil]); first | done | rfl | (simp only [List.length_drop, List.length_take]; rfl)) ?_
 with_reducible refine (yy.calls (fun k_ => some k_ = (.slice Ao16 t365.length co16 : Value).ownBlock) (.slice Ao16 t365.length co16) t365 _ _ l1_3 t368 w0 _ ?side1 ?side2 ?side3 ?side4 A5.out).mono ?_
 (case side1 => repeat (first | (with_reducible first | exact HB.out | apply zc | apply zb | apply zd | refine zh ?_ GE358.out) | exact HB.out))
 (case side2 => exact Kd.R_tight rfl HO367.out)
 (case side3 => exact Kd.C_kept_call HR1_3.out (by repeat (first | (with_reducible first | exact HK.out | apply zq.alloc | apply zq.drewN | apply zq.drew | refine zq.setCell ?_ (.inr GW358.out) _) | exact HK.out)) (fun k_ hs_ => (fun e_ => (HO367.out.1 k_ e_.symm)) hs_))
 (case side4 => exact HC1_3.out)
 rintro e w17 ⟨v369, rfl, ho0, hb, hkp⟩
 refine ⟨_, rfl, ?_⟩
 have n0_ := za.mk (y6 (by (with_reducible repeat (first | refine zt ?_ _ | refine zu ?_ | refine zr ?_ _)); exact BK358.out) hkp (fun hs_ => (fun e_ => (Kd.R_ne HO367.out BK358.out (by decide)) e_) hs_))
 have n1_ := za.mk (Kd.R_mono (ok' := fun k_ => (P0_ k_ ∨ w.heap.size ≤ k_)) (Kd.R_keptB ((Kd.R_apart' HO364.out (Kd.R_typed HO367.out) (by decide))) hkp (fun k_ hk_ hs_ => (hk_.2) hs_)) (fun k_ hk_ => hk_.1.1))
 have n2_ := za.mk (Kd.R_mono (ok' := fun k_ => (P0_ k_ ∨ w.heap.size ≤ k_)) ho0 (fun k_ hk_ => Or.elim hk_ (fun hs_ => (HO367.out.1 k_ (hs_).symm)) (fun hn_ => (.inr (Nat.le_trans (by first | exact HK.out.1 | exact (show zq w _ (fun k_ => P0_ k_) from by repeat (first | (with_reducible first | exact HK.out | apply zq.alloc | apply zq.drewN | apply zq.drew | refine zq.setCell ?_ (.inr GW358.out) _) | exact HK.out)).1) hn_)))))
 have n3_ := za.mk (zq.then_ (S := (fun k_ => P0_ k_)) (by repeat (first | (with_reducible first | exact HK.out | apply zq.alloc | apply zq.drewN | apply zq.drew | refine zq.setCell ?_ (.inr GW358.out) _) | exact HK.out)) hkp (fun k_ hs_ => (fun e_ => (HO367.out.1 k_ e_.symm)) hs_))
 have n4_ := za.mk (hb)
 clear BK358
 clear HO364
 clear HK
 clear HB
 clear HO367
 have BK358 := n0_
 have HO364 := n1_
 have HO370 := n2_
 have HK := n3_
 have HB := n4_
 clear n0_ n1_ n2_ n3_ n4_
 (try clear hb)
 (try clear hkp)
 (try clear ho0)
 refine hK.out _ _ ⟨(zg BK358.out 0).trans rfl, (zg BK358.out 1).trans rfl, (zg BK358.out 2).trans rfl, (zg BK358.out 3).trans rfl⟩ (fun hHeld => ?_)
 clear hK K
 refine yH (a' := ?_) ?_ ?_
 rotate_left
 ·show Act.put _ (some 20) _ = _
  simp only [Act.put, Vt, Vu, Vv, zx, zz]
  rfl
 refine zZ (i := 16) (N := some 4) (v := ?_) (a' := ?_) #[ZT,ZT,ZT,ZT,ZT,ZT,ZT,ZT,ZT,ZT,ZT,ZT,ZT,ZT,ZT,ZT,ZT] rfl rfl (zV HT_.out (by kernel_rfl)) (fun _ _ _ h => h) (Or.inl ⟨by rfl, ?_⟩) ?_ ?_
 rotate_left
 ·intro w'
  go_simp
  with_reducible rfl
 rotate_left
 ·simp only [Act.put, Vt, Vu, Vv, zx, zz]
  rfl
 refine q4 (qB HT_.out (by kernel_rfl)) ?_
 try go_wp2
 go_ret
 exact ⟨_, by first | rfl | (simp [zn, zo] <;> rfl) | (simp [*, zn, zo] <;> rfl), by (with_reducible repeat (first | apply Kd.R_alloc | apply Kd.R_drewN | apply Kd.R_drew)); exact HO370.out, by repeat (first | (with_reducible first | exact HB.out | apply zc | apply zb | apply zd | refine zh ?_ GE358.out) | exact HB.out), by repeat (first | (with_reducible first | exact HK.out | apply zq.alloc | apply zq.drewN | apply zq.drew | refine zq.setCell ?_ (.inr GW358.out) _) | exact HK.out)⟩
def yC.f (k : Nat) (l0 : List Int) (l1 : List S93) : Option (List Int) := (zD.f k l0 (([(l1.length : Int)] : List Int))).bind fun t => ja (fun acc x => yF.f k acc x.f0 x.f1.f0 x.f1.f1 x.f1.f2) l1 t
theorem yC.calls (k : Nat) (P0_ : Nat → Prop) (u9000_ : Value) (l0 : List Int) (A1 : Option Addr) (c1 : Nat) (l1 : List (S93)) (r : List Int) (w0 w : World) (hB : Below w0.heap.size w0 w) (ho0 : Kd.R (Kd.int .u8) 5 w w0.heap.size P0_ u9000_ l0) (hr1 : ∀ W_, zq w W_ (fun k_ => P0_ k_) → Kd.C k93 W_ A1 l1.length l1) (hc1 : l1.length ≤ c1) (h : yC.f k l0 l1 = some r) :
  Calls Try.prog 55 #[u9000_, .slice A1 l1.length c1, .func (Fn.func 56) #[] #[]] w fun e w' => ∃ v0_ : Value, e = .returned (v0_) ∧ Kd.R (Kd.int .u8) 5 w' w0.heap.size (fun k_ => (P0_ k_ ∨ w.heap.size ≤ k_)) v0_ r ∧ Below w0.heap.size w0 w' ∧ zq w w' (fun k_ => P0_ k_) := by
 have HLEN := za.mk (hr1 w (zq.refl _ _)).2.1
 have HBLK : za (0 < l1.length → ∃ ad, A1 = some ad ∧ ad.block < w.heap.size ∧ ¬ P0_ ad.block) := ⟨fun hn => ZP hr1 hn (by decide)⟩
 have HO0 := za.mk (show Kd.R (Kd.int .u8) 5 w w0.heap.size (fun k_ => (P0_ k_ ∨ w.heap.size ≤ k_)) u9000_ l0 from Kd.R_mono ho0 (fun k_ hk => (.inl hk)))
 have HR1 := za.mk hr1
 have HC1 := za.mk hc1
 clear hr1 hc1 ho0
 have HK := za.mk (zq.refl w (fun k_ => P0_ k_))
 have HB := za.mk hB
 clear hB
 unfold yC.f at h
 rw [Vx] at h
 obtain ⟨t0, ht0, h⟩ := h
 have A4 := za.mk ht0
 have H' := za.mk h
 clear ht0 h
 obtain ⟨y391, hy391⟩ : ∃ y_ : List Int, y_ = (([(l1.length : Int)] : List Int)) := ⟨_, rfl⟩
 have Ny391 := za.mk hy391
 have A4 := za.mk (show zD.f k l0 y391 = some t0 by rw [hy391]; exact A4.out)
 clear hy391
 go_enter Try.func55, Try.ntmps55
 go_wp2_with (first | ((with_reducible refine zC (N := 12) rfl ?_); refine Kd.R_lit (Kd.int .i64) _ 3 ?hg (N := 12) ?hd (xs := ([(l1.length : Int)] : List Int)) (inner := [.int .i64 (l1.length : Int)]) (ok := fun _ => True) (okp := fun _ => True) ?hr ?hp (fun _ hk => hk) trivial (Below.refl _ _) (Nat.le_refl _) (by simp) ?_; (case hd => rfl); (case hg => rfl); (case hr => first | (go_simp; done) | (go_simp; rfl)); (case hp => exact (yh.one (show Kd.M (Kd.int .i64) _ _ _ (l1.length : Int) [.int .i64 (l1.length : Int)] from rfl) (yh.none _ _))); intro v392 w5 ho6 hb hg_ hnew_; clear hg_ hnew_; (first | rw [← Ny391.out] at ho6 | (simp only [Int.reduceToNat] at ho6; rw [← Ny391.out] at ho6)); have n0_ := za.mk (Kd.R_below HO0.out hb); have n1_ := za.mk (Kd.R_lower (Kd.R_newM (M := (fun k_ => (P0_ k_ ∨ w.heap.size ≤ k_))) ho6 HK.out.1 (fun k_ h_ => .inr h_)) HB.out.size); have n2_ := za.mk (zq.below (S := (fun k_ => P0_ k_)) (by repeat (first | (with_reducible first | exact HK.out | apply zq.alloc | apply zq.drewN | apply zq.drew) | exact HK.out)) hb); have n3_ := za.mk (zi (by repeat (first | (with_reducible first | exact HB.out | apply zc | apply zb | apply zd) | exact HB.out)) hb); clear HO0; clear HK; clear HB; have HO0 := n0_; have HO393 := n1_; have HK := n2_; have HB := n3_; clear n0_ n1_ n2_ n3_; clear hb ho6; obtain ⟨Ao7, co7, eo7⟩ := Kd.R_slice HO0.out; subst eo7; obtain ⟨Ao8, co8, eo8⟩ := Kd.R_slice HO393.out; subst eo8) | ((with_reducible refine zL (f := 39) rfl ?_); refine z8 (some 13) rfl rfl Try.func39 (by kernel_rfl) rfl #[.slice Ao7 l0.length co7, .slice Ao8 y391.length co8] rfl (by (try simp only [Vw, List.map_cons, List.map_nil]); first | done | rfl) ?_; (with_reducible refine (zD.calls k (fun k_ => some k_ = (.slice Ao7 l0.length co7 : Value).ownBlock) (.slice Ao7 l0.length co7) l0 _ _ y391 t0 w0 _ ?side1 ?side2 ?side3 ?side4 A4.out).mono ?_); (case side1 => exact HB.out); (case side2 => exact Kd.R_tight rfl HO0.out); (case side3 => exact Kd.C_kept_own ((Kd.R_apart' HO393.out (Kd.R_typed HO0.out) (by decide))) (fun k_ hk_ hs_ => (hk_.2) hs_)); (case side4 => exact (Kd.R_reads' HO393.out).2.1); rintro e w9 ⟨v395, rfl, ho0, hb, hkp⟩; refine ⟨_, rfl, ?_⟩; have n1_ := za.mk (Kd.R_mono (ok' := (fun k_ => (P0_ k_ ∨ w.heap.size ≤ k_))) ho0 (fun k_ hk_ => Or.elim hk_ (fun hs_ => (HO0.out.1 k_ (hs_).symm)) (fun hn_ => (.inr (Nat.le_trans HK.out.1 hn_))))); have n2_ := za.mk (zq.then_ (S := (fun k_ => P0_ k_)) HK.out hkp (fun k_ hs_ => (fun e_ => (HO0.out.1 k_ e_.symm)) hs_)); have n3_ := za.mk (hb); clear HO393; clear HK; clear HB; clear HO0; have HO396 := n1_; have HK := n2_; have HB := n3_; clear n1_ n2_ n3_; (try clear hb); (try clear hkp); (try clear ho0)))
 go_loopg [0, 16] l1.length (fun kq v0 v16 w' => ∃ (xs : List Int) (i : Nat), v16 = .int .i64 i ∧ za (i + kq = l1.length) ∧ za (ja (fun acc x => yF.f k acc x.f0 x.f1.f0 x.f1.f1 x.f1.f2) (l1.drop i) xs = some r) ∧ za (Kd.R (Kd.int .u8) 5 w' w0.heap.size (fun k_ => (P0_ k_ ∨ w.heap.size ≤ k_)) v0 xs) ∧ za (zq w w' (fun k_ => P0_ k_)) ∧ za (Below w0.heap.size w0 w'))
 case atStart => exact ⟨t0, 0, rfl, ⟨by simp⟩, ⟨by rw [List.drop_zero]; exact H'.out⟩, HO396, HK, HB⟩
 case round =>
  clear H'
  obtain ⟨xs, i, rfl, HI, HA, HO_0, HK, HB⟩ := hrel
  by_cases hlt : i < l1.length
  ·have ho := HA.out
   rw [List.drop_eq_getElem_cons hlt, ja, Vx] at ho
   obtain ⟨t1, ht1, ho⟩ := ho
   have A13 := za.mk ht1
   have H2 := za.mk ho
   clear ht1 ho HA
   have hq : (i : Int).toNat = i := Int.toNat_natCast i
   have hrd : zM l1 (i : Int) = l1[i] := by simp [zM, hlt]
   obtain ⟨ad, Ai, ci, ea, hx0, hx1, hx2, hx3, hl, hC⟩ := qc (HR1.out _ HK.out) (i : Int) (by omega) (by omega)
   rw [hrd, hq] at hx0 hx1 hx2 hx3
   rw [hrd] at hl
   obtain ⟨ad2, ea2, hblt, hnp⟩ := HBLK.out (by omega)
   cases ea.symm.trans ea2
   have HIN : za (∀ (g_ : Nat → Prop) (W_ : World), (∀ k_, g_ k_ → (P0_ k_ ∨ w.heap.size ≤ k_)) → zq wr W_ g_ → Kd.C (Kd.int .i64) W_ Ai l1[i].f1.f2.length l1[i].f1.f2) := ⟨fun g_ W_ hg hk => by
    obtain ⟨ad', Ai', ci', ea', hx0', hx1', hx2', hx3', hl', hC'⟩ := qc (HR1.out W_ (HK.out.then_ hk (fun k_ h_ => hg k_ h_))) (i : Int) (by omega) (by omega)
    rw [hrd, hq] at hx0' hx1' hx2' hx3'
    cases ea.symm.trans ea'
    have hne : ¬ g_ ad.block := fun h_ => Or.elim (hg _ h_) hnp (fun h2 => by omega)
    have hq2 := YK hx3 hk (by first | exact hne | (rw [zW]; exact hne) | (show ¬ g_ (Addr.add _ _).block; rw [zW]; exact hne))
    rw [hx3'] at hq2
    injection hq2 with hq2
    injection hq2 with hq2 _ _
    subst hq2
    rw [hrd] at hC'
    exact hC'⟩
   have HL := za.mk hl
   clear hl hC HBLK
   cases ea
   clear ea2
   obtain ⟨x, hx⟩ : ∃ x, x = l1[i] := ⟨_, rfl⟩
   rw [← hx] at A13 HL HIN hx0 hx1 hx2 hx3
   clear hx hrd hq
   go_wp2_with (first | ((with_reducible refine zC (N := 8) rfl ?_); refine zF ?hg (N := 8) ?hd (cs := #[.string ⟨#[]⟩, .int .i64 0, .int .i64 0, .slice none 0 0]) (t := 93) ?hr ?_; (case hd => rfl); (case hg => rfl); (case hr => first | (go_simp; done) | (go_simp; rfl)); intro gb hg w14 hbox hb; have n0_ := za.mk (Kd.R_below HO_0.out hb); have n1_ := za.mk (zq.below (S := (fun k_ => P0_ k_)) HK.out hb); have n2_ := za.mk (zi HB.out hb); have n3_ := za.mk hbox; have n4_ := za.mk (by rw [hg]; exact HK.out.1 : w.heap.size ≤ gb); have n5_ := za.mk (by rw [hg]; exact HB.out.size : w0.heap.size ≤ gb); have n6_ := za.mk (fun (g_ : Nat → Prop) (W_ : World) (hg_ : ∀ k_, g_ k_ → (P0_ k_ ∨ w.heap.size ≤ k_)) (hk_ : zq w14 W_ g_) => HIN.out g_ W_ hg_ ((zq.of_below hb g_).then_ hk_ (fun _ h_ => .inl h_))); clear HO_0; clear HK; clear HB; clear HIN; have HO_0 := n0_; have HK := n1_; have HB := n2_; have BK := n3_; have GW := n4_; have GE := n5_; have HIN := n6_; clear n0_ n1_ n2_ n3_ n4_ n5_ n6_; clear hb hbox hg; have hcz_0 : w14.cell? ⟨gb, 0, none⟩ = some (.string ⟨#[]⟩) := (zg BK.out 0).trans rfl; have hfz_0 := ze BK.out 0; have hcz_1 : w14.cell? ⟨gb, 1, none⟩ = some (.int .i64 0) := (zg BK.out 1).trans rfl; have hfz_1 := ze BK.out 1; have hcz_2 : w14.cell? ⟨gb, 2, none⟩ = some (.int .i64 0) := (zg BK.out 2).trans rfl; have hfz_2 := ze BK.out 2; have hcz_3 : w14.cell? ⟨gb, 3, none⟩ = some (.slice none 0 0) := (zg BK.out 3).trans rfl; have hfz_3 := ze BK.out 3) | ((with_reducible refine yQ (t := 93) (p := 8) rfl ?_); refine yJ (t := 93) (p := 8) (v := ?vo_w16) (w1 := ((((w14.setCell ⟨gb, 0, none⟩ (.string x.f0)).setCell ⟨gb, 1, none⟩ (.int .i64 x.f1.f0)).setCell ⟨gb, 2, none⟩ (.int .i64 x.f1.f1)).setCell ⟨gb, 3, none⟩ (.slice Ai x.f1.f2.length ci))) ?hg ?ho ?hn ?hr ?_; (case ho => rfl); (case hg => rfl); (case hn => rfl); (case hr => first | (go_simp; done) | (go_simp; rfl)); intro w16 hw; have n0_ : za (Kd.R (Kd.int .u8) 5 w16 w0.heap.size (fun k_ => (P0_ k_ ∨ w.heap.size ≤ k_)) u0 xs) := ⟨(by rw [hw]; exact (Kd.R_mono (Kd.R_far (p := ⟨gb, 3, none⟩) (Kd.R_far (p := ⟨gb, 2, none⟩) (Kd.R_far (p := ⟨gb, 1, none⟩) (Kd.R_far (p := ⟨gb, 0, none⟩) (Kd.R_types HO_0.out BK.out (by decide)) (fun _ hk => hk.2) (.string x.f0)) (fun _ hk => hk.2) (.int .i64 x.f1.f0)) (fun _ hk => hk.2) (.int .i64 x.f1.f1)) (fun _ hk => hk.2) (.slice Ai x.f1.f2.length ci)) (fun _ hk => hk.1)))⟩; have n1_ : za (w16.heap[gb]? = some (.cells #[.string x.f0, .int .i64 x.f1.f0, .int .i64 x.f1.f1, .slice Ai x.f1.f2.length ci] 93 (0, 0))) := ⟨(by rw [hw]; exact (zJ (cs' := #[.string x.f0, .int .i64 x.f1.f0, .int .i64 x.f1.f1, .slice Ai x.f1.f2.length ci]) (zJ (cs' := #[.string x.f0, .int .i64 x.f1.f0, .int .i64 x.f1.f1, .slice none 0 0]) (zJ (cs' := #[.string x.f0, .int .i64 x.f1.f0, .int .i64 0, .slice none 0 0]) (zJ (cs' := #[.string x.f0, .int .i64 0, .int .i64 0, .slice none 0 0]) (BK.out) 0 _ rfl) 1 _ rfl) 2 _ rfl) 3 _ rfl))⟩; have n2_ : za (zq w w16 (fun k_ => P0_ k_)) := ⟨(by rw [hw]; exact (zq.setCell (p := ⟨gb, 3, none⟩) (zq.setCell (p := ⟨gb, 2, none⟩) (zq.setCell (p := ⟨gb, 1, none⟩) (zq.setCell (p := ⟨gb, 0, none⟩) (HK.out) (.inr GW.out) _) (.inr GW.out) _) (.inr GW.out) _) (.inr GW.out) _))⟩; have n3_ : za (Below w0.heap.size w0 w16) := ⟨(by rw [hw]; exact (zh (g := gb) (j := 3) (zh (g := gb) (j := 2) (zh (g := gb) (j := 1) (zh (g := gb) (j := 0) (HB.out) GE.out) GE.out) GE.out) GE.out))⟩; have n4_ : za (zq w14 w16 (fun k_ => k_ = gb)) := ⟨(by rw [hw]; exact (zq.setCell (p := ⟨gb, 3, none⟩) (zq.setCell (p := ⟨gb, 2, none⟩) (zq.setCell (p := ⟨gb, 1, none⟩) (zq.setCell (p := ⟨gb, 0, none⟩) (zq.refl w14 (fun k_ => k_ = gb)) (.inl rfl) _) (.inl rfl) _) (.inl rfl) _) (.inl rfl) _))⟩; have n5_ := za.mk (fun (g_ : Nat → Prop) (W_ : World) (hg_ : ∀ k_, g_ k_ → (P0_ k_ ∨ w.heap.size ≤ k_)) (hk_ : zq w16 W_ g_) => HIN.out (fun k_ => k_ = gb ∨ g_ k_) W_ (fun k_ h_ => h_.elim (fun e_ => .inr (by rw [e_]; exact GW.out)) (hg_ k_)) ((n4_.out.mono (fun _ h_ => .inl h_)).then_ hk_ (fun _ h_ => .inl (.inr h_)))); clear hw; clear HO_0; clear BK; clear HK; clear HB; clear HIN; have HO_0 := n0_; have BK := n1_; have HK := n2_; have HB := n3_; have HIN := n5_; clear n0_ n1_ n2_ n3_ n4_ n5_; clear hcz_0 hfz_0; clear hcz_1 hfz_1; clear hcz_2 hfz_2; clear hcz_3 hfz_3; have hcz_0 : w16.cell? ⟨gb, 0, none⟩ = some (.string x.f0) := (zg BK.out 0).trans rfl; have hfz_0 := ze BK.out 0; have hcz_1 : w16.cell? ⟨gb, 1, none⟩ = some (.int .i64 x.f1.f0) := (zg BK.out 1).trans rfl; have hfz_1 := ze BK.out 1; have hcz_2 : w16.cell? ⟨gb, 2, none⟩ = some (.int .i64 x.f1.f1) := (zg BK.out 2).trans rfl; have hfz_2 := ze BK.out 2; have hcz_3 : w16.cell? ⟨gb, 3, none⟩ = some (.slice Ai x.f1.f2.length ci) := (zg BK.out 3).trans rfl; have hfz_3 := ze BK.out 3; obtain ⟨Ao18, co18, eo18⟩ := Kd.R_slice HO_0.out; subst eo18) | ((with_reducible refine zC (N := 23) rfl ?_); refine qo (some 23) rfl rfl Try.func56 (by kernel_rfl) rfl #[.slice Ao18 xs.length co18, .agg #[.string x.f0, .int .i64 x.f1.f0, .int .i64 x.f1.f1, .slice Ai x.f1.f2.length ci]] rfl (by (try simp only [Vw, List.map_cons, List.map_nil]); first | done | rfl) ?_; (with_reducible refine (yF.calls k (fun k_ => some k_ = (.slice Ao18 xs.length co18 : Value).ownBlock) (.slice Ao18 xs.length co18) xs x.f0 x.f1.f0 x.f1.f1 Ai ci x.f1.f2 t1 w0 _ ?side1 ?side2 ?side3 HL.out A13.out).mono ?_); (case side1 => exact HB.out); (case side2 => exact Kd.R_tight rfl HO_0.out); (case side3 => exact fun W_ hk_ => HIN.out _ W_ (fun k_ e_ => HO_0.out.1 k_ e_.symm) hk_); rintro e w19 ⟨v400, rfl, ho0, hb, hkp⟩; refine ⟨_, rfl, ?_⟩; have n1_ := za.mk (Kd.R_mono (ok' := (fun k_ => (P0_ k_ ∨ w.heap.size ≤ k_))) ho0 (fun k_ hk_ => Or.elim hk_ (fun hs_ => (HO_0.out.1 k_ (hs_).symm)) (fun hn_ => (.inr (Nat.le_trans HK.out.1 hn_))))); have n2_ := za.mk (zq.then_ (S := (fun k_ => P0_ k_)) HK.out hkp (fun k_ hs_ => (fun e_ => (HO_0.out.1 k_ e_.symm)) hs_)); have n3_ := za.mk (hb); clear BK; clear HK; clear HB; clear HO_0; have HO401 := n1_; have HK := n2_; have HB := n3_; clear n1_ n2_ n3_; (try clear hb); (try clear hkp); (try clear ho0)))
   go_roundg (l1.length - (i + 1))
   case measure => have := HI.out; omega
   case rel => exact ⟨t1, i + 1, (by have h_ : wrap64 ((i : Int) + 1) = ((i + 1 : Nat) : Int) := yU (by omega) (by have := HLEN.out; omega); first | (rw [h_]) | (simp only [h_])), ⟨by omega⟩, H2, HO401, HK, HB⟩
  ·obtain rfl : i = l1.length := by have := HI.out; omega
   have ho := HA.out
   rw [List.drop_length, ja] at ho
   obtain rfl := Option.some.inj ho
   go_wp2
   go_ret
   exact ⟨_, rfl, HO_0.out, HB.out, HK.out⟩
def xX.f (k : Nat) (l0 : List (S93)) : Option (ByteArray × Int) := (yl.f k l0).bind fun t371 => ((yC.f k ([] : List Int) l0).bind fun t372 => ((yi.f t371 t372).bind fun bt375 => (some (bt375.1, bt375.2))))
theorem xX.calls (k : Nat) (A0 : Option Addr) (c0 : Nat) (l0 : List (S93)) (r1 : ByteArray) (r2 : Int) (w : World) (hr0 : Kd.C k93 w A0 l0.length l0) (hc0 : l0.length ≤ c0) (h : xX.f k l0 = some (r1, r2)) :
  Calls Try.prog 19 #[.slice A0 l0.length c0] w fun e w' => e = .returned (.tuple #[.string r1, .int .i64 r2]) ∧ Below w.heap.size w w' := by
 have HR0 := za.mk hr0
 have HC0 := za.mk hc0
 clear hr0 hc0
 have HB := za.mk (Below.refl w.heap.size w)
 have H : ((yl.f k l0).bind fun t371 => ((yC.f k ([] : List Int) l0).bind fun t372 => ((yi.f t371 t372).bind fun bt375 => (some (bt375.1, bt375.2))))) = some (r1, r2) := h
 clear h
 replace H := Vx.mp H
 obtain ⟨t371, A20, H⟩ := H
 replace H : ((yC.f k ([] : List Int) l0).bind fun t372 => ((yi.f t371 t372).bind fun bt375 => (some (bt375.1, bt375.2)))) = some (r1, r2) := H
 have A2 := za.mk A20
 clear A20
 replace H := Vx.mp H
 obtain ⟨t372, A30, H⟩ := H
 replace H : ((yi.f t371 t372).bind fun bt375 => (some (bt375.1, bt375.2))) = some (r1, r2) := H
 have A3 := za.mk A30
 clear A30
 replace H := Vx.mp H
 obtain ⟨⟨t375, t376⟩, A40, H⟩ := H
 replace H : (some (t375, t376)) = some (r1, r2) := H
 have A4 := za.mk A40
 clear A40
 simp only [Option.some.injEq, Prod.mk.injEq] at H
 obtain ⟨rfl, rfl⟩ := H
 go_enter Try.func19, Try.ntmps19
 go_wp2_with (first | ((with_reducible refine zL (f := 54) rfl ?_); refine z8 (some 5) rfl rfl Try.func54 (by kernel_rfl) rfl #[.slice A0 l0.length c0] rfl (by (try simp only [Vw, List.map_cons, List.map_nil]); first | done | rfl | (simp only [List.length_drop, List.length_take]; rfl)) ?_; (with_reducible refine (yl.calls k _ _ l0 t371 _ ?side1 ?side2 A2.out).mono ?_); (case side1 => repeat (first | exact HR0.out | (with_reducible refine Kd.C_alloc ?_ _) | (with_reducible refine Kd.C_drewN ?_ _) | (with_reducible refine Kd.C_drew ?_))); (case side2 => exact HC0.out); rintro e w5 ⟨rfl, hb⟩; refine ⟨_, rfl, ?_⟩; have n0_ := za.mk (zi (by repeat (first | (with_reducible first | exact HB.out | apply zc | apply zb | apply zd) | exact HB.out)) hb); clear HB; have HB := n0_; clear n0_; (try clear hb); (try clear hb2); (try clear hk); (try clear hi)) | ((with_reducible refine zL (f := 55) rfl ?_); refine z8 (some 7) rfl rfl Try.func55 (by kernel_rfl) rfl #[.slice none 0 0, .slice A0 l0.length c0, .func (Fn.func 56) #[] #[]] rfl (by (try simp only [Vw, List.map_cons, List.map_nil]); first | done | rfl | (simp only [List.length_drop, List.length_take]; rfl)) ?_; (refine (yC.calls k (fun k_ => some k_ = (.slice none 0 0 : Value).ownBlock) (.slice none 0 0) ([] : List Int) _ _ l0 t372 w _ ?side1 ?side2 ?side3 ?side4 A3.out).mono ?_); (case side1 => repeat (first | (with_reducible first | exact HB.out | apply zc | apply zb | apply zd) | exact HB.out)); (case side2 => exact Kd.R_nil _ _ _ _ _); (case side3 => exact Kd.C_kept_came Q9 HR0.out (by repeat (first | (with_reducible first | exact HB.out | apply zc | apply zb | apply zd) | exact HB.out)) (fun k_ hs_ => (fun e_ => by simp [Value.ownBlock] at e_) hs_)); (case side4 => exact HC0.out); rintro e w6 ⟨v373, rfl, ho0, hb, hkp⟩; refine ⟨_, rfl, ?_⟩; have n0_ := za.mk (Kd.R_mono (ok' := fun k_ => True) ho0 (fun k_ hk_ => trivial)); have n1_ := za.mk (hb); clear HB; have HO374 := n0_; have HB := n1_; clear n0_ n1_; (try clear hb); (try clear hkp); (try clear ho0); obtain ⟨Ao7, co7, eo7⟩ := Kd.R_slice HO374.out; subst eo7) | ((with_reducible refine zL (f := 41) rfl ?_); refine z8 (some 8) rfl rfl Try.func41 (by kernel_rfl) rfl #[.bool t371, .slice Ao7 t372.length co7] rfl (by (try simp only [Vw, List.map_cons, List.map_nil]); first | done | rfl | (simp only [List.length_drop, List.length_take]; rfl)) ?_; (with_reducible refine (yi.calls t371 _ _ t372 t375 t376 _ ?side1 ?side2 A4.out).mono ?_); (case side1 => repeat (first | exact (Kd.R_reads' HO374.out).2.2 | (with_reducible refine Kd.C_alloc ?_ _) | (with_reducible refine Kd.C_drewN ?_ _) | (with_reducible refine Kd.C_drew ?_))); (case side2 => exact (Kd.R_reads' HO374.out).2.1); rintro e w' ⟨rfl, ⟨nd, rfl⟩⟩; refine ⟨_, rfl, ?_⟩))
 go_ret2
 exact ⟨by first | rfl | (simp [zn, zo] <;> rfl) | (simp [*, zn, zo] <;> rfl), by repeat (first | (with_reducible first | exact HB.out | apply zc | apply zb | apply zd) | exact HB.out)⟩
def xA.f (k : Nat) (l0 : List Int) (a1_0 : Int) (a1_1 : Int) : Option (List Int) := (zD.f k l0 (([a1_0, a1_1] : List Int))).bind fun t386 => (some t386)
theorem xA.calls (k : Nat) (P0_ : Nat → Prop) (u9000_ : Value) (l0 : List Int) (a1_0 : Int) (a1_1 : Int) (r : List Int) (w0 w : World) (hB : Below w0.heap.size w0 w) (ho0 : Kd.R (Kd.int .u8) 5 w w0.heap.size P0_ u9000_ l0) (h : xA.f k l0 a1_0 a1_1 = some r) :
  Calls Try.prog 59 #[u9000_, .agg #[.int .i64 a1_0, .int .i64 a1_1]] w fun e w' => ∃ v0_ : Value, e = .returned (v0_) ∧ Kd.R (Kd.int .u8) 5 w' w0.heap.size (fun k_ => (P0_ k_ ∨ w.heap.size ≤ k_)) v0_ r ∧ Below w0.heap.size w0 w' ∧ zq w w' (fun k_ => P0_ k_) := by
 have hu97 := Try.underlying97
 have HO0 := za.mk (show Kd.R (Kd.int .u8) 5 w w0.heap.size (fun k_ => (P0_ k_ ∨ w.heap.size ≤ k_)) u9000_ l0 from Kd.R_mono ho0 (fun k_ hk => (.inl hk)))
 have HK := za.mk (zq.refl w (fun k_ => P0_ k_))
 have HW0 := za.mk hB.size
 have HB := za.mk hB
 clear hB
 have H : ((zD.f k l0 (([a1_0, a1_1] : List Int))).bind fun t386 => (some t386)) = some r := h
 clear h
 obtain ⟨y383, hy383⟩ : ∃ y_ : List Int, y_ = (([a1_0, a1_1] : List Int)) := ⟨_, rfl⟩
 replace H : ((zD.f k l0 y383).bind fun t386 => (some t386)) = some r := by first | (rw [hy383]; with_reducible exact H) | (have H2_ := (Option.bind_some _ _).symm.trans H; rw [hy383]; with_reducible exact H2_) | (have H2_ := (Option.bind_some _ _).symm.trans H; with_reducible exact H2_) | with_reducible exact H | (rw [hy383]; exact H) | exact H
 have Ny383 := za.mk hy383
 clear hy383
 replace H := Vx.mp H
 obtain ⟨t386, A30, H⟩ := H
 replace H : (some t386) = some r := H
 have A3 := za.mk A30
 clear A30
 obtain rfl := Option.some.inj H
 go_enter Try.func59, Try.ntmps59
 go_wp2_with (first | ((with_reducible refine zC (N := 3) rfl ?_); refine zF ?hg (N := 3) ?hd (cs := #[.int .i64 a1_0, .int .i64 a1_1]) (t := 97) ?hr ?_; (case hd => rfl); (case hg => rfl); (case hr => first | (go_simp; done) | (go_simp; rfl)); intro gb382 hg w4 hbox hb; have n0_ := za.mk (Kd.R_below (by (with_reducible repeat (first | apply Kd.R_alloc | apply Kd.R_drewN | apply Kd.R_drew)); exact HO0.out) hb); have n1_ := za.mk (zq.below (S := (fun k_ => P0_ k_)) (by repeat (first | (with_reducible first | exact HK.out | apply zq.alloc | apply zq.drewN | apply zq.drew) | exact HK.out)) hb); have n2_ := za.mk (zi (by repeat (first | (with_reducible first | exact HB.out | apply zc | apply zb | apply zd) | exact HB.out)) hb); have n3_ := za.mk (hbox); have n4_ := za.mk ((by rw [hg]; exact (by first | exact HK.out.1 | exact (show zq w _ (fun k_ => P0_ k_) from by repeat (first | (with_reducible first | exact HK.out | apply zq.alloc | apply zq.drewN | apply zq.drew) | exact HK.out)).1) : w.heap.size ≤ gb382)); have n5_ := za.mk ((by rw [hg]; exact (zp (by repeat (first | (with_reducible first | exact HB.out | apply zc | apply zb | apply zd) | exact HB.out))) : w0.heap.size ≤ gb382)); clear HO0; clear HK; clear HB; have HO0 := n0_; have HK := n1_; have HB := n2_; have BK382 := n3_; have GW382 := n4_; have GE382 := n5_; clear n0_ n1_ n2_ n3_ n4_ n5_; clear hb hbox hg; have hcz5_0 : w4.cell? ⟨gb382, 0, none⟩ = some (.int .i64 a1_0) := (zg BK382.out 0).trans rfl; have hcz5_1 : w4.cell? ⟨gb382, 1, none⟩ = some (.int .i64 a1_1) := (zg BK382.out 1).trans rfl; have hfz5_0 := ze BK382.out 0; have hfz5_1 := ze BK382.out 1) | ((with_reducible refine zC (N := 10) rfl ?_); refine Kd.R_lit (Kd.int .i64) _ 3 ?hg (N := 10) ?hd (xs := ([a1_0, a1_1] : List Int)) (inner := [.int .i64 a1_0, .int .i64 a1_1]) (ok := fun _ => True) (okp := fun _ => True) ?hr ?hp (fun _ hk => hk) trivial (Below.refl _ _) (Nat.le_refl _) (by simp) ?_; (case hd => rfl); (case hg => rfl); (case hr => first | (go_simp; done) | (go_simp; rfl)); (case hp => exact (yh.one (show Kd.M (Kd.int .i64) _ _ _ a1_0 [.int .i64 a1_0] from rfl) (yh.one (show Kd.M (Kd.int .i64) _ _ _ a1_1 [.int .i64 a1_1] from rfl) (yh.none _ _)))); intro v384 w6 ho7 hb hg_ hnew_; clear hg_ hnew_; (first | rw [← Ny383.out] at ho7 | (simp only [Int.reduceToNat] at ho7; rw [← Ny383.out] at ho7)); have n0_ := za.mk (Kd.R_below (by (with_reducible repeat (first | apply Kd.R_alloc | apply Kd.R_drewN | apply Kd.R_drew)); exact HO0.out) hb); have n1_ := za.mk (Kd.R_lower (Kd.R_newM (M := fun k_ => (P0_ k_ ∨ w.heap.size ≤ k_)) ho7 (by first | exact HK.out.1 | exact (show zq w _ (fun k_ => P0_ k_) from by repeat (first | (with_reducible first | exact HK.out | apply zq.alloc | apply zq.drewN | apply zq.drew | refine zq.setCell ?_ (.inr GW382.out) _) | exact HK.out)).1) (fun k_ h_ => .inr h_)) (zp (by repeat (first | (with_reducible first | exact HB.out | apply zc | apply zb | apply zd | refine zh ?_ GE382.out) | exact HB.out)))); have n2_ := za.mk (zH (g := gb382) (o := .cells #[.int .i64 a1_0, .int .i64 a1_1] 97 (0, 0)) (by (with_reducible repeat (first | refine zt ?_ _ | refine zu ?_ | refine zr ?_ _)); exact BK382.out) hb); have n3_ := za.mk (zq.below (S := (fun k_ => P0_ k_)) (by repeat (first | (with_reducible first | exact HK.out | apply zq.alloc | apply zq.drewN | apply zq.drew | refine zq.setCell ?_ (.inr GW382.out) _) | exact HK.out)) hb); have n4_ := za.mk (zi (by repeat (first | (with_reducible first | exact HB.out | apply zc | apply zb | apply zd | refine zh ?_ GE382.out) | exact HB.out)) hb); clear HO0; clear BK382; clear HK; clear HB; have HO0 := n0_; have HO385 := n1_; have BK382 := n2_; have HK := n3_; have HB := n4_; clear n0_ n1_ n2_ n3_ n4_; clear hb ho7; obtain ⟨Ao8, co8, eo8⟩ := Kd.R_slice HO0.out; subst eo8; obtain ⟨Ao9, co9, eo9⟩ := Kd.R_slice HO385.out; subst eo9) | ((with_reducible refine zL (f := 39) rfl ?_); refine z8 (some 11) rfl rfl Try.func39 (by kernel_rfl) rfl #[.slice Ao8 l0.length co8, .slice Ao9 y383.length co9] rfl (by (try simp only [Vw, List.map_cons, List.map_nil]); first | done | rfl | (simp only [List.length_drop, List.length_take]; rfl)) ?_; (with_reducible refine (zD.calls k (fun k_ => some k_ = (.slice Ao8 l0.length co8 : Value).ownBlock) (.slice Ao8 l0.length co8) l0 _ _ y383 t386 w0 _ ?side1 ?side2 ?side3 ?side4 A3.out).mono ?_); (case side1 => repeat (first | (with_reducible first | exact HB.out | apply zc | apply zb | apply zd | refine zh ?_ GE382.out) | exact HB.out)); (case side2 => exact Kd.R_tight rfl HO0.out); (case side3 => exact Kd.C_kept_own ((Kd.R_apart' HO385.out (Kd.R_typed HO0.out) (by decide))) (fun k_ hk_ hs_ => (hk_.2) hs_)); (case side4 => exact (Kd.R_reads' HO385.out).2.1); rintro e w10 ⟨v387, rfl, ho0, hb, hkp⟩; refine ⟨_, rfl, ?_⟩; have n0_ := za.mk (y6 (by (with_reducible repeat (first | refine zt ?_ _ | refine zu ?_ | refine zr ?_ _)); exact BK382.out) hkp (fun hs_ => (fun e_ => (Kd.R_ne HO0.out BK382.out (by decide)) e_) hs_)); have n1_ := za.mk (Kd.R_mono (ok' := fun k_ => (P0_ k_ ∨ w.heap.size ≤ k_)) (Kd.R_keptB ((Kd.R_apart' HO385.out (Kd.R_typed HO0.out) (by decide))) hkp (fun k_ hk_ hs_ => (hk_.2) hs_)) (fun k_ hk_ => hk_.1.1.1)); have n2_ := za.mk (Kd.R_mono (ok' := fun k_ => (P0_ k_ ∨ w.heap.size ≤ k_)) ho0 (fun k_ hk_ => Or.elim hk_ (fun hs_ => (HO0.out.1 k_ (hs_).symm)) (fun hn_ => (.inr (Nat.le_trans (by first | exact HK.out.1 | exact (show zq w _ (fun k_ => P0_ k_) from by repeat (first | (with_reducible first | exact HK.out | apply zq.alloc | apply zq.drewN | apply zq.drew | refine zq.setCell ?_ (.inr GW382.out) _) | exact HK.out)).1) hn_))))); have n3_ := za.mk (zq.then_ (S := (fun k_ => P0_ k_)) (by repeat (first | (with_reducible first | exact HK.out | apply zq.alloc | apply zq.drewN | apply zq.drew | refine zq.setCell ?_ (.inr GW382.out) _) | exact HK.out)) hkp (fun k_ hs_ => (fun e_ => (HO0.out.1 k_ e_.symm)) hs_)); have n4_ := za.mk (hb); clear BK382; clear HO385; clear HK; clear HB; clear HO0; have BK382 := n0_; have HO385 := n1_; have HO388 := n2_; have HK := n3_; have HB := n4_; clear n0_ n1_ n2_ n3_ n4_; (try clear hb); (try clear hkp); (try clear ho0)))
 go_ret
 exact ⟨_, by first | rfl | (simp [zn, zo] <;> rfl) | (simp [*, zn, zo] <;> rfl), by (with_reducible repeat (first | apply Kd.R_alloc | apply Kd.R_drewN | apply Kd.R_drew)); exact HO388.out, by repeat (first | (with_reducible first | exact HB.out | apply zc | apply zb | apply zd | refine zh ?_ GE382.out) | exact HB.out), by repeat (first | (with_reducible first | exact HK.out | apply zq.alloc | apply zq.drewN | apply zq.drew | refine zq.setCell ?_ (.inr GW382.out) _) | exact HK.out)⟩
def zR.l0 : Nat → List Int → List (S97) → Int → Int → Option (List Int)
 | 0, _, _, _, _ => none
 | k + 1, x0, x14, x15, x16 => if x16 < x15 then (if 0 ≤ x16 then (if x16 < (x14.length : Int) then ((xA.f k x0 ((zP x14 x16).f0) ((zP x14 x16).f1)).bind fun t397 => (zR.l0 k t397 x14 x15 (wrap64 (x16 + 1)))) else (none)) else (none)) else (some x0)
def zR.f (k : Nat) (l0 : List Int) (l1 : List (S97))  : Option (List Int) := (zD.f k l0 (([(l1.length : Int)] : List Int))).bind fun t392 => (zR.l0 k t392 l1 (l1.length : Int) 0)
theorem zR.calls (k : Nat) (P0_ : Nat → Prop) (u9000_ : Value) (l0 : List Int) (A1 : Option Addr) (c1 : Nat) (l1 : List (S97))  (r : List Int) (w0 w : World) (hB : Below w0.heap.size w0 w) (ho0 : Kd.R (Kd.int .u8) 5 w w0.heap.size P0_ u9000_ l0) (hr1 : ∀ W_, zq w W_ (fun k_ => P0_ k_) → Kd.C k97 W_ A1 l1.length l1) (hc1 : l1.length ≤ c1) (h : zR.f k l0 l1 = some r) :
  Calls Try.prog 58 #[u9000_, .slice A1 l1.length c1, .func (Fn.func 59) #[] #[]] w fun e w' => ∃ v0_ : Value, e = .returned (v0_) ∧ Kd.R (Kd.int .u8) 5 w' w0.heap.size (fun k_ => (P0_ k_ ∨ w.heap.size ≤ k_)) v0_ r ∧ Below w0.heap.size w0 w' ∧ zq w w' (fun k_ => P0_ k_) := by
 have hu97 := Try.underlying97
 have HO0 := za.mk (show Kd.R (Kd.int .u8) 5 w w0.heap.size (fun k_ => (P0_ k_ ∨ w.heap.size ≤ k_)) u9000_ l0 from Kd.R_mono ho0 (fun k_ hk => (.inl hk)))
 have HR1 := za.mk hr1
 have HC1 := za.mk hc1
 clear hr1 hc1
 have HK := za.mk (zq.refl w (fun k_ => P0_ k_))
 have HW0 := za.mk hB.size
 have HB := za.mk hB
 clear hB
 have H : ((zD.f k l0 (([(l1.length : Int)] : List Int))).bind fun t392 => (zR.l0 k t392 l1 (l1.length : Int) 0)) = some r := h
 clear h
 obtain ⟨y389, hy389⟩ : ∃ y_ : List Int, y_ = (([(l1.length : Int)] : List Int)) := ⟨_, rfl⟩
 replace H : ((zD.f k l0 y389).bind fun t392 => (zR.l0 k t392 l1 (l1.length : Int) 0)) = some r := by first | (rw [hy389]; with_reducible exact H) | (have H2_ := (Option.bind_some _ _).symm.trans H; rw [hy389]; with_reducible exact H2_) | (have H2_ := (Option.bind_some _ _).symm.trans H; with_reducible exact H2_) | with_reducible exact H | (rw [hy389]; exact H) | exact H
 have Ny389 := za.mk hy389
 clear hy389
 replace H := Vx.mp H
 obtain ⟨t392, A40, H⟩ := H
 replace H : (zR.l0 k t392 l1 (l1.length : Int) 0) = some r := H
 have A4 := za.mk A40
 clear A40
 have H' := za.mk H
 clear H
 go_enter Try.func58, Try.ntmps58
 go_wp2_with (first | ((with_reducible refine zC (N := 12) rfl ?_); refine Kd.R_lit (Kd.int .i64) _ 3 ?hg (N := 12) ?hd (xs := ([(l1.length : Int)] : List Int)) (inner := [.int .i64 (l1.length : Int)]) (ok := fun _ => True) (okp := fun _ => True) ?hr ?hp (fun _ hk => hk) trivial (Below.refl _ _) (Nat.le_refl _) (by simp) ?_; (case hd => rfl); (case hg => rfl); (case hr => first | (go_simp; done) | (go_simp; rfl)); (case hp => exact (yh.one (show Kd.M (Kd.int .i64) _ _ _ (l1.length : Int) [.int .i64 (l1.length : Int)] from rfl) (yh.none _ _))); intro v390 w5 ho6 hb hg_ hnew_; clear hg_ hnew_; (first | rw [← Ny389.out] at ho6 | (simp only [Int.reduceToNat] at ho6; rw [← Ny389.out] at ho6)); have n0_ := za.mk (Kd.R_below (by (with_reducible repeat (first | apply Kd.R_alloc | apply Kd.R_drewN | apply Kd.R_drew)); exact HO0.out) hb); have n1_ := za.mk (Kd.R_lower (Kd.R_newM (M := fun k_ => (P0_ k_ ∨ w.heap.size ≤ k_)) ho6 (by first | exact HK.out.1 | exact (show zq w _ (fun k_ => P0_ k_) from by repeat (first | (with_reducible first | exact HK.out | apply zq.alloc | apply zq.drewN | apply zq.drew) | exact HK.out)).1) (fun k_ h_ => .inr h_)) (zp (by repeat (first | (with_reducible first | exact HB.out | apply zc | apply zb | apply zd) | exact HB.out)))); have n2_ := za.mk (zq.below (S := (fun k_ => P0_ k_)) (by repeat (first | (with_reducible first | exact HK.out | apply zq.alloc | apply zq.drewN | apply zq.drew) | exact HK.out)) hb); have n3_ := za.mk (zi (by repeat (first | (with_reducible first | exact HB.out | apply zc | apply zb | apply zd) | exact HB.out)) hb); clear HO0; clear HK; clear HB; have HO0 := n0_; have HO391 := n1_; have HK := n2_; have HB := n3_; clear n0_ n1_ n2_ n3_; clear hb ho6; obtain ⟨Ao7, co7, eo7⟩ := Kd.R_slice HO0.out; subst eo7; obtain ⟨Ao8, co8, eo8⟩ := Kd.R_slice HO391.out; subst eo8) | ((with_reducible refine zL (f := 39) rfl ?_); refine z8 (some 13) rfl rfl Try.func39 (by kernel_rfl) rfl #[.slice Ao7 l0.length co7, .slice Ao8 y389.length co8] rfl (by (try simp only [Vw, List.map_cons, List.map_nil]); first | done | rfl | (simp only [List.length_drop, List.length_take]; rfl)) ?_; (with_reducible refine (zD.calls k (fun k_ => some k_ = (.slice Ao7 l0.length co7 : Value).ownBlock) (.slice Ao7 l0.length co7) l0 _ _ y389 t392 w0 _ ?side1 ?side2 ?side3 ?side4 A4.out).mono ?_); (case side1 => repeat (first | (with_reducible first | exact HB.out | apply zc | apply zb | apply zd) | exact HB.out)); (case side2 => exact Kd.R_tight rfl HO0.out); (case side3 => exact Kd.C_kept_own ((Kd.R_apart' HO391.out (Kd.R_typed HO0.out) (by decide))) (fun k_ hk_ hs_ => (hk_.2) hs_)); (case side4 => exact (Kd.R_reads' HO391.out).2.1); rintro e w9 ⟨v393, rfl, ho0, hb, hkp⟩; refine ⟨_, rfl, ?_⟩; have n0_ := za.mk (Kd.R_mono (ok' := fun k_ => (P0_ k_ ∨ w.heap.size ≤ k_)) (Kd.R_keptB ((Kd.R_apart' HO391.out (Kd.R_typed HO0.out) (by decide))) hkp (fun k_ hk_ hs_ => (hk_.2) hs_)) (fun k_ hk_ => hk_.1.1.1)); have n1_ := za.mk (Kd.R_mono (ok' := fun k_ => (P0_ k_ ∨ w.heap.size ≤ k_)) ho0 (fun k_ hk_ => Or.elim hk_ (fun hs_ => (HO0.out.1 k_ (hs_).symm)) (fun hn_ => (.inr (Nat.le_trans (by first | exact HK.out.1 | exact (show zq w _ (fun k_ => P0_ k_) from by repeat (first | (with_reducible first | exact HK.out | apply zq.alloc | apply zq.drewN | apply zq.drew) | exact HK.out)).1) hn_))))); have n2_ := za.mk (zq.then_ (S := (fun k_ => P0_ k_)) (by repeat (first | (with_reducible first | exact HK.out | apply zq.alloc | apply zq.drewN | apply zq.drew) | exact HK.out)) hkp (fun k_ hs_ => (fun e_ => (HO0.out.1 k_ e_.symm)) hs_)); have n3_ := za.mk (hb); clear HO391; clear HK; clear HB; clear HO0; have HO391 := n0_; have HO394 := n1_; have HK := n2_; have HB := n3_; clear n0_ n1_ n2_ n3_; (try clear hb); (try clear hkp); (try clear ho0)))
 go_loopg [0, 16] k (fun kq v0 v16 w' => ∃ (x0_1 : List Int) (x16_1 : Int), v16 = .int .i64 x16_1 ∧ za (zR.l0 kq x0_1 l1 (l1.length : Int) x16_1 = some r) ∧ za (kq ≤ k) ∧ za (Kd.R (Kd.int .u8) 5 w' w0.heap.size (fun k_ => (P0_ k_ ∨ w.heap.size ≤ k_)) v0 x0_1) ∧ za (zq w w' (fun k_ => P0_ k_)) ∧ za (Below w0.heap.size w0 w'))
 case atStart => exact ⟨(t392), (0), (by first | rfl | (simp; done) | (simp [*]; done)), H', ⟨Nat.le_refl _⟩, ⟨by (with_reducible repeat (first | apply Kd.R_alloc | apply Kd.R_drewN | apply Kd.R_drew)); exact HO394.out⟩, ⟨by repeat (first | (with_reducible first | exact HK.out | apply zq.alloc | apply zq.drewN | apply zq.drew) | exact HK.out)⟩, ⟨by repeat (first | (with_reducible first | exact HB.out | apply zc | apply zb | apply zd) | exact HB.out)⟩⟩
 case round =>
  clear H'
  try clear c1
  try clear p2
  try clear c3
  try clear c9
  obtain ⟨x0_1, x16_1, rfl, HA, HK1, HO_0, HK, HB⟩ := hrel
  cases gk with
  | zero => exact absurd HA.out (by simp [zR.l0])
  | succ k1 =>
   have H := HA.out
   clear HA
   simp only [zR.l0] at H
   by_cases c10 : x16_1 < (l1.length : Int)
   ·rw [if_pos c10] at H
    have c10b0 : decide (x16_1 < (l1.length : Int)) = true := decide_eq_true c10
    clear c10
    by_cases c11 : 0 ≤ x16_1
    ·rw [if_pos c11] at H
     have c11b0 : decide (0 ≤ x16_1) = true := decide_eq_true c11
     clear c11
     by_cases c12 : x16_1 < (l1.length : Int)
     ·rw [if_pos c12] at H
      have c12b0 : decide (x16_1 < (l1.length : Int)) = true := decide_eq_true c12
      clear c12
      replace H := Vx.mp H
      obtain ⟨t397, A130, H⟩ := H
      replace H : (zR.l0 k1 t397 l1 (l1.length : Int) (wrap64 (x16_1 + 1))) = some r := H
      have A13 := za.mk A130
      clear A130
      have H' := za.mk H
      clear H
      have p395 : 0 ≤ (x16_1 : Int) := of_decide_eq_true (by first | (with_reducible assumption) | assumption)
      have q395 : x16_1 < (l1.length : Int) := of_decide_eq_true (by first | (with_reducible assumption) | assumption)
      obtain ⟨ad395, e395, hx395_0, hx395_1⟩ := xU (Kd.C_kept_now HR1.out HK.out) x16_1 p395 q395
      cases e395
      replace p395 := eq_true p395
      replace q395 := eq_true q395
      go_wp2_with (first | ((with_reducible refine zC (N := 8) rfl ?_); refine zF ?hg (N := 8) ?hd (cs := #[.int .i64 0, .int .i64 0]) (t := 97) ?hr ?_; (case hd => rfl); (case hg => rfl); (case hr => first | (go_simp; done) | (go_simp; rfl)); intro gb396 hg w14 hbox hb; have n0_ := za.mk (Kd.R_below (by (with_reducible repeat (first | apply Kd.R_alloc | apply Kd.R_drewN | apply Kd.R_drew)); exact HO_0.out) hb); have n1_ := za.mk (zq.below (S := (fun k_ => P0_ k_)) (by repeat (first | (with_reducible first | exact HK.out | apply zq.alloc | apply zq.drewN | apply zq.drew) | exact HK.out)) hb); have n2_ := za.mk (zi (by repeat (first | (with_reducible first | exact HB.out | apply zc | apply zb | apply zd) | exact HB.out)) hb); have n3_ := za.mk (hbox); have n4_ := za.mk ((by rw [hg]; exact (by first | exact HK.out.1 | exact (show zq w _ (fun k_ => P0_ k_) from by repeat (first | (with_reducible first | exact HK.out | apply zq.alloc | apply zq.drewN | apply zq.drew) | exact HK.out)).1) : w.heap.size ≤ gb396)); have n5_ := za.mk ((by rw [hg]; exact (zp (by repeat (first | (with_reducible first | exact HB.out | apply zc | apply zb | apply zd) | exact HB.out))) : w0.heap.size ≤ gb396)); clear HO_0; clear HK; clear HB; have HO_0 := n0_; have HK := n1_; have HB := n2_; have BK396 := n3_; have GW396 := n4_; have GE396 := n5_; clear n0_ n1_ n2_ n3_ n4_ n5_; clear hb hbox hg; have hcz15_0 : w14.cell? ⟨gb396, 0, none⟩ = some (.int .i64 0) := (zg BK396.out 0).trans rfl; have hcz15_1 : w14.cell? ⟨gb396, 1, none⟩ = some (.int .i64 0) := (zg BK396.out 1).trans rfl; have hfz15_0 := ze BK396.out 0; have hfz15_1 := ze BK396.out 1) | ((with_reducible refine yQ (t := 97) (p := 8) rfl ?_); refine yJ (t := 97) (p := 8) (v := ?vo_w16) (w1 := ((w14.setCell ⟨gb396, 0, none⟩ (.int .i64 ((zP l1 x16_1).f0))).setCell ⟨gb396, 1, none⟩ (.int .i64 ((zP l1 x16_1).f1)))) ?hg ?ho ?hn ?hr ?_; (case ho => rfl); (case hg => rfl); (case hn => rfl); (case hr => first | (go_simp; done) | (go_simp; rfl)); intro w16 hw; have n0_ : za (Kd.R (Kd.int .u8) 5 w16 w0.heap.size (fun k_ => (P0_ k_ ∨ w.heap.size ≤ k_)) u0 x0_1) := ⟨(by rw [hw]; exact (by (with_reducible repeat (first | apply Kd.R_alloc | apply Kd.R_drewN | apply Kd.R_drew)); exact Kd.R_mono (Kd.R_far (p := ⟨gb396, 1, none⟩) (Kd.R_far (p := ⟨gb396, 0, none⟩) (Kd.R_types HO_0.out BK396.out (by decide)) (fun _ hk => hk.2) (.int .i64 ((zP l1 x16_1).f0))) (fun _ hk => hk.2) (.int .i64 ((zP l1 x16_1).f1))) (fun _ hk => hk.1)))⟩; have n1_ : za (w16.heap[gb396]? = some (.cells #[.int .i64 ((zP l1 x16_1).f0), .int .i64 ((zP l1 x16_1).f1)] 97 (0, 0))) := ⟨(by rw [hw]; exact (by (with_reducible repeat (first | refine zt ?_ _ | refine zu ?_ | refine zr ?_ _)); refine zJ (cs := #[.int .i64 ((zP l1 x16_1).f0), .int .i64 0]) ?_ 1 _ rfl; (with_reducible repeat (first | refine zt ?_ _ | refine zu ?_ | refine zr ?_ _)); refine zJ (cs := #[.int .i64 0, .int .i64 0]) ?_ 0 _ rfl; (with_reducible repeat (first | refine zt ?_ _ | refine zu ?_ | refine zr ?_ _)); exact BK396.out))⟩; have n2_ : za (zq w w16 (fun k_ => P0_ k_)) := ⟨(by rw [hw]; exact (by repeat (first | (with_reducible first | exact HK.out | apply zq.alloc | apply zq.drewN | apply zq.drew | refine zq.setCell ?_ (.inr GW396.out) _) | exact HK.out)))⟩; have n3_ : za (Below w0.heap.size w0 w16) := ⟨(by rw [hw]; exact (by repeat (first | (with_reducible first | exact HB.out | apply zc | apply zb | apply zd | refine zh ?_ GE396.out) | exact HB.out)))⟩; clear hw; clear HO_0; clear BK396; clear HK; clear HB; have HO_0 := n0_; have BK396 := n1_; have HK := n2_; have HB := n3_; clear n0_ n1_ n2_ n3_; have hcz17_0 : w16.cell? ⟨gb396, 0, none⟩ = some (.int .i64 ((zP l1 x16_1).f0)) := (zg BK396.out 0).trans rfl; have hcz17_1 : w16.cell? ⟨gb396, 1, none⟩ = some (.int .i64 ((zP l1 x16_1).f1)) := (zg BK396.out 1).trans rfl; have hfz17_0 := ze BK396.out 0; have hfz17_1 := ze BK396.out 1; obtain ⟨Ao18, co18, eo18⟩ := Kd.R_slice HO_0.out; subst eo18) | ((with_reducible refine zC (N := 23) rfl ?_); refine qo (some 23) rfl rfl Try.func59 (by kernel_rfl) rfl #[.slice Ao18 x0_1.length co18, .agg #[.int .i64 ((zP l1 x16_1).f0), .int .i64 ((zP l1 x16_1).f1)]] rfl (by (try simp only [Vw, List.map_cons, List.map_nil]); first | done | rfl | (simp only [List.length_drop, List.length_take]; rfl)) ?_; (with_reducible refine (xA.calls k1 (fun k_ => some k_ = (.slice Ao18 x0_1.length co18 : Value).ownBlock) (.slice Ao18 x0_1.length co18) x0_1 ((zP l1 x16_1).f0) ((zP l1 x16_1).f1) t397 w0 _ ?side1 ?side2 A13.out).mono ?_); (case side1 => repeat (first | (with_reducible first | exact HB.out | apply zc | apply zb | apply zd | refine zh ?_ GE396.out) | exact HB.out)); (case side2 => exact Kd.R_tight rfl HO_0.out); rintro e w19 ⟨v398, rfl, ho0, hb, hkp⟩; refine ⟨_, rfl, ?_⟩; have n0_ := za.mk (y6 (by (with_reducible repeat (first | refine zt ?_ _ | refine zu ?_ | refine zr ?_ _)); exact BK396.out) hkp (fun hs_ => (fun e_ => (Kd.R_ne HO_0.out BK396.out (by decide)) e_) hs_)); have n1_ := za.mk (Kd.R_mono (ok' := fun k_ => (P0_ k_ ∨ w.heap.size ≤ k_)) ho0 (fun k_ hk_ => Or.elim hk_ (fun hs_ => (HO_0.out.1 k_ (hs_).symm)) (fun hn_ => (.inr (Nat.le_trans (by first | exact HK.out.1 | exact (show zq w _ (fun k_ => P0_ k_) from by repeat (first | (with_reducible first | exact HK.out | apply zq.alloc | apply zq.drewN | apply zq.drew | refine zq.setCell ?_ (.inr GW396.out) _) | exact HK.out)).1) hn_))))); have n2_ := za.mk (zq.then_ (S := (fun k_ => P0_ k_)) (by repeat (first | (with_reducible first | exact HK.out | apply zq.alloc | apply zq.drewN | apply zq.drew | refine zq.setCell ?_ (.inr GW396.out) _) | exact HK.out)) hkp (fun k_ hs_ => (fun e_ => (HO_0.out.1 k_ e_.symm)) hs_)); have n3_ := za.mk (hb); clear BK396; clear HK; clear HB; clear HO_0; have BK396 := n0_; have HO399 := n1_; have HK := n2_; have HB := n3_; clear n0_ n1_ n2_ n3_; (try clear hb); (try clear hkp); (try clear ho0)))
      go_roundg k1
      case measure => have := HK1.out; omega
      case rel => exact ⟨(t397), (wrap64 (x16_1 + 1)), (by first | rfl | (simp; done) | (simp [*]; done)), H', ⟨by have := HK1.out; omega⟩, ⟨by (with_reducible repeat (first | apply Kd.R_alloc | apply Kd.R_drewN | apply Kd.R_drew)); exact HO399.out⟩, ⟨by repeat (first | (with_reducible first | exact HK.out | apply zq.alloc | apply zq.drewN | apply zq.drew | refine zq.setCell ?_ (.inr GW396.out) _) | exact HK.out)⟩, ⟨by repeat (first | (with_reducible first | exact HB.out | apply zc | apply zb | apply zd | refine zh ?_ GE396.out) | exact HB.out)⟩⟩
     ·rw [if_neg c12] at H
      exact absurd H (by simp)
    ·rw [if_neg c11] at H
     exact absurd H (by simp)
   ·rw [if_neg c10] at H
    have c10b0 : decide (x16_1 < (l1.length : Int)) = false := decide_eq_false c10
    clear c10
    obtain rfl := Option.some.inj H
    go_wp2
    go_ret
    exact ⟨_, by first | rfl | (simp [zn, zo] <;> rfl) | (simp [*, zn, zo] <;> rfl), by (with_reducible repeat (first | apply Kd.R_alloc | apply Kd.R_drewN | apply Kd.R_drew)); exact HO_0.out, by repeat (first | (with_reducible first | exact HB.out | apply zc | apply zb | apply zd) | exact HB.out), by repeat (first | (with_reducible first | exact HK.out | apply zq.alloc | apply zq.drewN | apply zq.drew) | exact HK.out)⟩
def xO.f (k : Nat) (l0 : List (S97)) : Option (ByteArray × Int) := (z5.f k l0).bind fun t400 => ((zR.f k ([] : List Int) l0).bind fun t401 => ((yi.f t400 t401).bind fun bt404 => (some (bt404.1, bt404.2))))
theorem xO.calls (k : Nat) (A0 : Option Addr) (c0 : Nat) (l0 : List (S97)) (r1 : ByteArray) (r2 : Int) (w : World) (hr0 : Kd.C k97 w A0 l0.length l0) (hc0 : l0.length ≤ c0) (h : xO.f k l0 = some (r1, r2)) :
  Calls Try.prog 20 #[.slice A0 l0.length c0] w fun e w' => e = .returned (.tuple #[.string r1, .int .i64 r2]) ∧ Below w.heap.size w w' := by
 have HR0 := za.mk hr0
 have HC0 := za.mk hc0
 clear hr0 hc0
 have HB := za.mk (Below.refl w.heap.size w)
 have H : ((z5.f k l0).bind fun t400 => ((zR.f k ([] : List Int) l0).bind fun t401 => ((yi.f t400 t401).bind fun bt404 => (some (bt404.1, bt404.2))))) = some (r1, r2) := h
 clear h
 replace H := Vx.mp H
 obtain ⟨t400, A20, H⟩ := H
 replace H : ((zR.f k ([] : List Int) l0).bind fun t401 => ((yi.f t400 t401).bind fun bt404 => (some (bt404.1, bt404.2)))) = some (r1, r2) := H
 have A2 := za.mk A20
 clear A20
 replace H := Vx.mp H
 obtain ⟨t401, A30, H⟩ := H
 replace H : ((yi.f t400 t401).bind fun bt404 => (some (bt404.1, bt404.2))) = some (r1, r2) := H
 have A3 := za.mk A30
 clear A30
 replace H := Vx.mp H
 obtain ⟨⟨t404, t405⟩, A40, H⟩ := H
 replace H : (some (t404, t405)) = some (r1, r2) := H
 have A4 := za.mk A40
 clear A40
 simp only [Option.some.injEq, Prod.mk.injEq] at H
 obtain ⟨rfl, rfl⟩ := H
 go_enter Try.func20, Try.ntmps20
 go_wp2_with (first | ((with_reducible refine zL (f := 57) rfl ?_); refine z8 (some 5) rfl rfl Try.func57 (by kernel_rfl) rfl #[.slice A0 l0.length c0] rfl (by (try simp only [Vw, List.map_cons, List.map_nil]); first | done | rfl | (simp only [List.length_drop, List.length_take]; rfl)) ?_; (with_reducible refine (z5.calls k _ _ l0 t400 _ ?side1 ?side2 A2.out).mono ?_); (case side1 => repeat (first | exact HR0.out | (with_reducible refine Kd.C_alloc ?_ _) | (with_reducible refine Kd.C_drewN ?_ _) | (with_reducible refine Kd.C_drew ?_))); (case side2 => exact HC0.out); rintro e w5 ⟨rfl, hb⟩; refine ⟨_, rfl, ?_⟩; have n0_ := za.mk (zi (by repeat (first | (with_reducible first | exact HB.out | apply zc | apply zb | apply zd) | exact HB.out)) hb); clear HB; have HB := n0_; clear n0_; (try clear hb); (try clear hb2); (try clear hk); (try clear hi)) | ((with_reducible refine zL (f := 58) rfl ?_); refine z8 (some 7) rfl rfl Try.func58 (by kernel_rfl) rfl #[.slice none 0 0, .slice A0 l0.length c0, .func (Fn.func 59) #[] #[]] rfl (by (try simp only [Vw, List.map_cons, List.map_nil]); first | done | rfl | (simp only [List.length_drop, List.length_take]; rfl)) ?_; (refine (zR.calls k (fun k_ => some k_ = (.slice none 0 0 : Value).ownBlock) (.slice none 0 0) ([] : List Int) _ _ l0 t401 w _ ?side1 ?side2 ?side3 ?side4 A3.out).mono ?_); (case side1 => repeat (first | (with_reducible first | exact HB.out | apply zc | apply zb | apply zd) | exact HB.out)); (case side2 => exact Kd.R_nil _ _ _ _ _); (case side3 => exact Kd.C_kept_came JK HR0.out (by repeat (first | (with_reducible first | exact HB.out | apply zc | apply zb | apply zd) | exact HB.out)) (fun k_ hs_ => (fun e_ => by simp [Value.ownBlock] at e_) hs_)); (case side4 => exact HC0.out); rintro e w6 ⟨v402, rfl, ho0, hb, hkp⟩; refine ⟨_, rfl, ?_⟩; have n0_ := za.mk (Kd.R_mono (ok' := fun k_ => True) ho0 (fun k_ hk_ => trivial)); have n1_ := za.mk (hb); clear HB; have HO403 := n0_; have HB := n1_; clear n0_ n1_; (try clear hb); (try clear hkp); (try clear ho0); obtain ⟨Ao7, co7, eo7⟩ := Kd.R_slice HO403.out; subst eo7) | ((with_reducible refine zL (f := 41) rfl ?_); refine z8 (some 8) rfl rfl Try.func41 (by kernel_rfl) rfl #[.bool t400, .slice Ao7 t401.length co7] rfl (by (try simp only [Vw, List.map_cons, List.map_nil]); first | done | rfl | (simp only [List.length_drop, List.length_take]; rfl)) ?_; (with_reducible refine (yi.calls t400 _ _ t401 t404 t405 _ ?side1 ?side2 A4.out).mono ?_); (case side1 => repeat (first | exact (Kd.R_reads' HO403.out).2.2 | (with_reducible refine Kd.C_alloc ?_ _) | (with_reducible refine Kd.C_drewN ?_ _) | (with_reducible refine Kd.C_drew ?_))); (case side2 => exact (Kd.R_reads' HO403.out).2.1); rintro e w' ⟨rfl, ⟨nd, rfl⟩⟩; refine ⟨_, rfl, ?_⟩))
 go_ret2
 exact ⟨by first | rfl | (simp [zn, zo] <;> rfl) | (simp [*, zn, zo] <;> rfl), by repeat (first | (with_reducible first | exact HB.out | apply zc | apply zb | apply zd) | exact HB.out)⟩
end Go.Proofs.Ytbfehjncllkogaa.Q
