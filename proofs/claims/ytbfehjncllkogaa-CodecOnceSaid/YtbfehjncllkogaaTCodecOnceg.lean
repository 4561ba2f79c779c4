/- Texts of this session laid together (shrink.py): what the claim's law rests on. -/
import Derived.Below
import Derived.Deep.Draws
import Derived.Deep.AppendLies
import Derived.Maps.AppendAt
import Derived.OwnWalk
import Derived.Laws.BytesArg
import Derived.Laws.MakeOwn
import Derived.Laws.OwnMore
import Derived.Deep.OwnRows
import Derived.Tactics
import Derived.Lib.ConvBytes
import Derived.Laws.Slices
import Derived.WalkKit
import Derived.KernelRfl
import Derived.RowKit3
import Derived.Deep.LoopGhost
import Derived.Deep.QuietTactic
import Derived.BigQuiet
import Derived.WideLaws
import Derived.Deep.DeepCutAuto
import Derived.Deep.CutBlock
import Derived.Deep.RegionHeld3
import Derived.Laws.Rows
import Derived.Lib.AppendStr
import Derived.ArgAppend
import Derived.Laws.IdiomCopy
import Derived.RowKit
import Derived.OrdersHeld
import Derived.Laws.BitsLemmas
import Derived.Laws.StructEq
import Derived.Test.YtbfehjncllkogaaProg
import Derived.WalkMore
import Derived.Lib.Strings
import Derived.Outline
import Derived.Test.YtbfehjncllkogaaTCodecOncef
set_option linter.unusedVariables false
set_option linter.unusedSimpArgs false
set_option maxRecDepth 100000
set_option maxHeartbeats 8000000
open Bool renaming true → ZT, false → ZF
namespace Go.Proofs.Ytbfehjncllkogaa.Q
open Go.RowKit Go.Proofs.YtbfehjncllkogaaW.PrintWords Go.Proofs.YtbfehjncllkogaaW.PrintLast Go.Proofs.YtbfehjncllkogaaW.PrintMore
def api_Event__by_codec_putEvent.f (k : Nat) (l0 : List Int) (l1 : List S81) : Option (List Int) := (codec_number.f k l0 (([(l1.length : Int)] : List Int))).bind fun t => foldO (fun acc x => codec_putEvent.f k acc x.f0 x.f1) l1 t
theorem api_Event__by_codec_putEvent.calls (k : Nat) (P0_ : Nat → Prop) (u9000_ : Value) (l0 : List Int) (A1 : Option Addr) (c1 : Nat) (l1 : List (S81)) (r : List Int) (w0 w : World) (hB : Below w0.heap.size w0 w) (ho0 : Kd.R (Kd.int .u8) 5 w w0.heap.size P0_ u9000_ l0) (hr1 : ∀ W_, Kept w W_ (fun k_ => P0_ k_) → Kd.C k81 W_ A1 l1.length l1) (hc1 : l1.length ≤ c1) (h : api_Event__by_codec_putEvent.f k l0 l1 = some r) :
  Calls Try.prog 44 #[u9000_, .slice A1 l1.length c1, .func (Fn.func 45) #[] #[]] w fun e w' => ∃ v0_ : Value, e = .returned (v0_) ∧ Kd.R (Kd.int .u8) 5 w' w0.heap.size (fun k_ => (P0_ k_ ∨ w.heap.size ≤ k_)) v0_ r ∧ Below w0.heap.size w0 w' ∧ Kept w w' (fun k_ => P0_ k_) := by
 have HLEN := Aside0.mk (hr1 w (Kept.refl _ _)).2.1
 have HBLK : Aside0 (0 < l1.length → ∃ ad, A1 = some ad ∧ ad.block < w.heap.size ∧ ¬ P0_ ad.block) := ⟨fun hn => kept_block hr1 hn (by decide)⟩
 have HO0 := Aside0.mk (show Kd.R (Kd.int .u8) 5 w w0.heap.size (fun k_ => (P0_ k_ ∨ w.heap.size ≤ k_)) u9000_ l0 from Kd.R_mono ho0 (fun k_ hk => (.inl hk)))
 have HR1 := Aside0.mk hr1
 have HC1 := Aside0.mk hc1
 clear hr1 hc1 ho0
 have HK := Aside0.mk (Kept.refl w (fun k_ => P0_ k_))
 have HB := Aside0.mk hB
 clear hB
 unfold api_Event__by_codec_putEvent.f at h
 rw [Option.bind_eq_some_iff] at h
 obtain ⟨t0, ht0, h⟩ := h
 have A4 := Aside0.mk ht0
 have H' := Aside0.mk h
 clear ht0 h
 obtain ⟨y391, hy391⟩ : ∃ y_ : List Int, y_ = (([(l1.length : Int)] : List Int)) := ⟨_, rfl⟩
 have Ny391 := Aside0.mk hy391
 have A4 := Aside0.mk (show codec_number.f k l0 y391 = some t0 by rw [hy391]; exact A4.out)
 clear hy391
 go_enter Try.func44, Try.ntmps44
 go_wp2_with (first | ((with_reducible refine gate_dst (N := 12) rfl ?_); refine Kd.R_lit (Kd.int .i64) _ 3 ?hg (N := 12) ?hd (xs := ([(l1.length : Int)] : List Int)) (inner := [.int .i64 (l1.length : Int)]) (ok := fun _ => True) (okp := fun _ => True) ?hr ?hp (fun _ hk => hk) trivial (Below.refl _ _) (Nat.le_refl _) (by simp) ?_; (case hd => rfl); (case hg => rfl); (case hr => first | (go_simp; done) | (go_simp; rfl)); (case hp => exact (Reps.one (show Kd.M (Kd.int .i64) _ _ _ (l1.length : Int) [.int .i64 (l1.length : Int)] from rfl) (Reps.none _ _))); intro v392 w5 ho6 hb hg_ hnew_; clear hg_ hnew_; (first | rw [← Ny391.out] at ho6 | (simp only [Int.reduceToNat] at ho6; rw [← Ny391.out] at ho6)); have n0_ := Aside0.mk (Kd.R_below HO0.out hb); have n1_ := Aside0.mk (Kd.R_lower (Kd.R_newM (M := (fun k_ => (P0_ k_ ∨ w.heap.size ≤ k_))) ho6 HK.out.1 (fun k_ h_ => .inr h_)) HB.out.size); have n2_ := Aside0.mk (Kept.below (S := (fun k_ => P0_ k_)) (by repeat (first | (with_reducible first | exact HK.out | apply Kept.alloc | apply Kept.drewN | apply Kept.drew) | exact HK.out)) hb); have n3_ := Aside0.mk (below_step (by repeat (first | (with_reducible first | exact HB.out | apply below_alloc | apply pw_below_drewN | apply below_drew1) | exact HB.out)) hb); clear HO0; clear HK; clear HB; have HO0 := n0_; have HO393 := n1_; have HK := n2_; have HB := n3_; clear n0_ n1_ n2_ n3_; clear hb ho6; obtain ⟨Ao7, co7, eo7⟩ := Kd.R_slice HO0.out; subst eo7; obtain ⟨Ao8, co8, eo8⟩ := Kd.R_slice HO393.out; subst eo8) | ((with_reducible refine gate_callee (f := 39) rfl ?_); refine goesL_ (some 13) rfl rfl Try.func39 (by kernel_rfl) rfl #[.slice Ao7 l0.length co7, .slice Ao8 y391.length co8] rfl (by (try simp only [List.map_toArray, List.map_cons, List.map_nil]); first | done | rfl) ?_; (with_reducible refine (codec_number.calls k (fun k_ => some k_ = (.slice Ao7 l0.length co7 : Value).ownBlock) (.slice Ao7 l0.length co7) l0 _ _ y391 t0 w0 _ ?side1 ?side2 ?side3 ?side4 A4.out).mono ?_); (case side1 => exact HB.out); (case side2 => exact Kd.R_tight rfl HO0.out); (case side3 => exact Kd.C_kept_own ((Kd.R_apart' HO393.out (Kd.R_typed HO0.out) (by decide))) (fun k_ hk_ hs_ => (hk_.2) hs_)); (case side4 => exact (Kd.R_reads' HO393.out).2.1); rintro e w9 ⟨v395, rfl, ho0, hb, hkp⟩; refine ⟨_, rfl, ?_⟩; have n1_ := Aside0.mk (Kd.R_mono (ok' := (fun k_ => (P0_ k_ ∨ w.heap.size ≤ k_))) ho0 (fun k_ hk_ => Or.elim hk_ (fun hs_ => (HO0.out.1 k_ (hs_).symm)) (fun hn_ => (.inr (Nat.le_trans HK.out.1 hn_))))); have n2_ := Aside0.mk (Kept.then_ (S := (fun k_ => P0_ k_)) HK.out hkp (fun k_ hs_ => (fun e_ => (HO0.out.1 k_ e_.symm)) hs_)); have n3_ := Aside0.mk (hb); clear HO393; clear HK; clear HB; clear HO0; have HO396 := n1_; have HK := n2_; have HB := n3_; clear n1_ n2_ n3_; (try clear hb); (try clear hkp); (try clear ho0)))
 go_loopg [0, 16] l1.length (fun kq v0 v16 w' => ∃ (xs : List Int) (i : Nat), v16 = .int .i64 i ∧ Aside0 (i + kq = l1.length) ∧ Aside0 (foldO (fun acc x => codec_putEvent.f k acc x.f0 x.f1) (l1.drop i) xs = some r) ∧ Aside0 (Kd.R (Kd.int .u8) 5 w' w0.heap.size (fun k_ => (P0_ k_ ∨ w.heap.size ≤ k_)) v0 xs) ∧ Aside0 (Kept w w' (fun k_ => P0_ k_)) ∧ Aside0 (Below w0.heap.size w0 w'))
 case atStart => exact ⟨t0, 0, rfl, ⟨by simp⟩, ⟨by rw [List.drop_zero]; exact H'.out⟩, HO396, HK, HB⟩
 case round =>
  clear H'
  obtain ⟨xs, i, rfl, HI, HA, HO_0, HK, HB⟩ := hrel
  by_cases hlt : i < l1.length
  ·have ho := HA.out
   rw [List.drop_eq_getElem_cons hlt, foldO, Option.bind_eq_some_iff] at ho
   obtain ⟨t1, ht1, ho⟩ := ho
   have A13 := Aside0.mk ht1
   have H2 := Aside0.mk ho
   clear ht1 ho HA
   have hq : (i : Int).toNat = i := Int.toNat_natCast i
   have hrd : rd_T81 l1 (i : Int) = l1[i] := by simp [rd_T81, hlt]
   obtain ⟨ad, Ai, ci, ea, hx0, hx1, hl, hC⟩ := at_T81 (HR1.out _ HK.out) (i : Int) (by omega) (by omega)
   rw [hrd, hq] at hx0 hx1
   rw [hrd] at hl
   obtain ⟨ad2, ea2, hblt, hnp⟩ := HBLK.out (by omega)
   cases ea.symm.trans ea2
   have HIN : Aside0 (∀ (g_ : Nat → Prop) (W_ : World), (∀ k_, g_ k_ → (P0_ k_ ∨ w.heap.size ≤ k_)) → Kept wr W_ g_ → Kd.C (Kd.int .i64) W_ Ai l1[i].f1.length l1[i].f1) := ⟨fun g_ W_ hg hk => by
    obtain ⟨ad', Ai', ci', ea', hx0', hx1', hl', hC'⟩ := at_T81 (HR1.out W_ (HK.out.then_ hk (fun k_ h_ => hg k_ h_))) (i : Int) (by omega) (by omega)
    rw [hrd, hq] at hx0' hx1'
    cases ea.symm.trans ea'
    have hne : ¬ g_ ad.block := fun h_ => Or.elim (hg _ h_) hnp (fun h2 => by omega)
    have hq2 := cell_kept hx1 hk (by first | exact hne | (rw [add_block]; exact hne) | (show ¬ g_ (Addr.add _ _).block; rw [add_block]; exact hne))
    rw [hx1'] at hq2
    injection hq2 with hq2
    injection hq2 with hq2 _ _
    subst hq2
    rw [hrd] at hC'
    exact hC'⟩
   have HL := Aside0.mk hl
   clear hl hC HBLK
   cases ea
   clear ea2
   obtain ⟨x, hx⟩ : ∃ x, x = l1[i] := ⟨_, rfl⟩
   rw [← hx] at A13 HL HIN hx0 hx1
   clear hx hrd hq
   go_wp2_with (first | ((with_reducible refine gate_dst (N := 8) rfl ?_); refine box_event ?hg (N := 8) ?hd (cs := #[.int .i64 0, .slice none 0 0]) (t := 81) ?hr ?_; (case hd => rfl); (case hg => rfl); (case hr => first | (go_simp; done) | (go_simp; rfl)); intro gb hg w14 hbox hb; have n0_ := Aside0.mk (Kd.R_below HO_0.out hb); have n1_ := Aside0.mk (Kept.below (S := (fun k_ => P0_ k_)) HK.out hb); have n2_ := Aside0.mk (below_step HB.out hb); have n3_ := Aside0.mk hbox; have n4_ := Aside0.mk (by rw [hg]; exact HK.out.1 : w.heap.size ≤ gb); have n5_ := Aside0.mk (by rw [hg]; exact HB.out.size : w0.heap.size ≤ gb); have n6_ := Aside0.mk (fun (g_ : Nat → Prop) (W_ : World) (hg_ : ∀ k_, g_ k_ → (P0_ k_ ∨ w.heap.size ≤ k_)) (hk_ : Kept w14 W_ g_) => HIN.out g_ W_ hg_ ((Kept.of_below hb g_).then_ hk_ (fun _ h_ => .inl h_))); clear HO_0; clear HK; clear HB; clear HIN; have HO_0 := n0_; have HK := n1_; have HB := n2_; have BK := n3_; have GW := n4_; have GE := n5_; have HIN := n6_; clear n0_ n1_ n2_ n3_ n4_ n5_ n6_; clear hb hbox hg; have hcz_0 : w14.cell? ⟨gb, 0, none⟩ = some (.int .i64 0) := (blk_cell BK.out 0).trans rfl; have hfz_0 := blk_frozen BK.out 0; have hcz_1 : w14.cell? ⟨gb, 1, none⟩ = some (.slice none 0 0) := (blk_cell BK.out 1).trans rfl; have hfz_1 := blk_frozen BK.out 1) | ((with_reducible refine gate_store (t := 81) (p := 8) rfl ?_); refine store_event (t := 81) (p := 8) (v := ?vo_w16) (w1 := ((w14.setCell ⟨gb, 0, none⟩ (.int .i64 x.f0)).setCell ⟨gb, 1, none⟩ (.slice Ai x.f1.length ci))) ?hg ?ho ?hn ?hr ?_; (case ho => rfl); (case hg => rfl); (case hn => rfl); (case hr => first | (go_simp; done) | (go_simp; rfl)); intro w16 hw; have n0_ : Aside0 (Kd.R (Kd.int .u8) 5 w16 w0.heap.size (fun k_ => (P0_ k_ ∨ w.heap.size ≤ k_)) u0 xs) := ⟨(by rw [hw]; exact (Kd.R_mono (Kd.R_far (p := ⟨gb, 1, none⟩) (Kd.R_far (p := ⟨gb, 0, none⟩) (Kd.R_types HO_0.out BK.out (by decide)) (fun _ hk => hk.2) (.int .i64 x.f0)) (fun _ hk => hk.2) (.slice Ai x.f1.length ci)) (fun _ hk => hk.1)))⟩; have n1_ : Aside0 (w16.heap[gb]? = some (.cells #[.int .i64 x.f0, .slice Ai x.f1.length ci] 81 (0, 0))) := ⟨(by rw [hw]; exact (blk_put (cs' := #[.int .i64 x.f0, .slice Ai x.f1.length ci]) (blk_put (cs' := #[.int .i64 x.f0, .slice none 0 0]) (BK.out) 0 _ rfl) 1 _ rfl))⟩; have n2_ : Aside0 (Kept w w16 (fun k_ => P0_ k_)) := ⟨(by rw [hw]; exact (Kept.setCell (p := ⟨gb, 1, none⟩) (Kept.setCell (p := ⟨gb, 0, none⟩) (HK.out) (.inr GW.out) _) (.inr GW.out) _))⟩; have n3_ : Aside0 (Below w0.heap.size w0 w16) := ⟨(by rw [hw]; exact (below_set (g := gb) (j := 1) (below_set (g := gb) (j := 0) (HB.out) GE.out) GE.out))⟩; have n4_ : Aside0 (Kept w14 w16 (fun k_ => k_ = gb)) := ⟨(by rw [hw]; exact (Kept.setCell (p := ⟨gb, 1, none⟩) (Kept.setCell (p := ⟨gb, 0, none⟩) (Kept.refl w14 (fun k_ => k_ = gb)) (.inl rfl) _) (.inl rfl) _))⟩; have n5_ := Aside0.mk (fun (g_ : Nat → Prop) (W_ : World) (hg_ : ∀ k_, g_ k_ → (P0_ k_ ∨ w.heap.size ≤ k_)) (hk_ : Kept w16 W_ g_) => HIN.out (fun k_ => k_ = gb ∨ g_ k_) W_ (fun k_ h_ => h_.elim (fun e_ => .inr (by rw [e_]; exact GW.out)) (hg_ k_)) ((n4_.out.mono (fun _ h_ => .inl h_)).then_ hk_ (fun _ h_ => .inl (.inr h_)))); clear hw; clear HO_0; clear BK; clear HK; clear HB; clear HIN; have HO_0 := n0_; have BK := n1_; have HK := n2_; have HB := n3_; have HIN := n5_; clear n0_ n1_ n2_ n3_ n4_ n5_; clear hcz_0 hfz_0; clear hcz_1 hfz_1; have hcz_0 : w16.cell? ⟨gb, 0, none⟩ = some (.int .i64 x.f0) := (blk_cell BK.out 0).trans rfl; have hfz_0 := blk_frozen BK.out 0; have hcz_1 : w16.cell? ⟨gb, 1, none⟩ = some (.slice Ai x.f1.length ci) := (blk_cell BK.out 1).trans rfl; have hfz_1 := blk_frozen BK.out 1; obtain ⟨Ao18, co18, eo18⟩ := Kd.R_slice HO_0.out; subst eo18) | ((with_reducible refine gate_dst (N := 23) rfl ?_); refine goesV_ (some 23) rfl rfl Try.func45 (by kernel_rfl) rfl #[.slice Ao18 xs.length co18, .agg #[.int .i64 x.f0, .slice Ai x.f1.length ci]] rfl (by (try simp only [List.map_toArray, List.map_cons, List.map_nil]); first | done | rfl) ?_; (with_reducible refine (codec_putEvent.calls k (fun k_ => some k_ = (.slice Ao18 xs.length co18 : Value).ownBlock) (.slice Ao18 xs.length co18) xs x.f0 Ai ci x.f1 t1 w0 _ ?side1 ?side2 ?side3 HL.out A13.out).mono ?_); (case side1 => exact HB.out); (case side2 => exact Kd.R_tight rfl HO_0.out); (case side3 => exact fun W_ hk_ => HIN.out _ W_ (fun k_ e_ => HO_0.out.1 k_ e_.symm) hk_); rintro e w19 ⟨v400, rfl, ho0, hb, hkp⟩; refine ⟨_, rfl, ?_⟩; have n1_ := Aside0.mk (Kd.R_mono (ok' := (fun k_ => (P0_ k_ ∨ w.heap.size ≤ k_))) ho0 (fun k_ hk_ => Or.elim hk_ (fun hs_ => (HO_0.out.1 k_ (hs_).symm)) (fun hn_ => (.inr (Nat.le_trans HK.out.1 hn_))))); have n2_ := Aside0.mk (Kept.then_ (S := (fun k_ => P0_ k_)) HK.out hkp (fun k_ hs_ => (fun e_ => (HO_0.out.1 k_ e_.symm)) hs_)); have n3_ := Aside0.mk (hb); clear BK; clear HK; clear HB; clear HO_0; have HO401 := n1_; have HK := n2_; have HB := n3_; clear n1_ n2_ n3_; (try clear hb); (try clear hkp); (try clear ho0)))
   go_roundg (l1.length - (i + 1))
   case measure => have := HI.out; omega
   case rel => exact ⟨t1, i + 1, (by have h_ : wrap64 ((i : Int) + 1) = ((i + 1 : Nat) : Int) := wrap_up (by omega) (by have := HLEN.out; omega); first | (rw [h_]) | (simp only [h_])), ⟨by omega⟩, H2, HO401, HK, HB⟩
  ·obtain rfl : i = l1.length := by have := HI.out; omega
   have ho := HA.out
   rw [List.drop_length, foldO] at ho
   obtain rfl := Option.some.inj ho
   go_wp2
   go_ret
   exact ⟨_, rfl, HO_0.out, HB.out, HK.out⟩
attribute [local go_sem] max2_int min2_int max_two min_two max_three min_three max_four min_four
def codec_PutRecord.f (k : Nat) (a0_0 : Int) (a0_1 : Int) (a0_2 : ByteArray) (a0_3 : Int) (l0_4 : List (S81)) : Option (ByteArray × Int) := (codec_number.f k ([] : List Int) (([a0_0, a0_1] : List Int))).bind fun t193 => ((codec_text.f t193 a0_2).bind fun t196 => ((codec_number.f k t196 (([a0_3] : List Int))).bind fun t202 => ((codec_record.f k a0_0 a0_1 a0_2 a0_3 l0_4).bind fun t205 => ((api_Event__by_codec_putEvent.f k t202 l0_4).bind fun t206 => ((codec_laid.f t205 t206).bind fun bt209 => (some (bt209.1, bt209.2)))))))
def codec_PutRecord.T1 : Bool × List (List Nat × List Nat) := (true, [([], []), ([0], [0]), ([], []), ([2], [2]), ([1, 3], [1, 3]), ([4], [4]), ([], []), ([6], [6]), ([5, 7, 5], [5, 7]), ([], []), ([9], [9]), ([10], [10]), ([8, 11, 8], [8, 11]), ([12, 12, 0, 1, 2, 3, 4, 5, 6, 7, 8, 9, 10, 11, 12], [12])])
def codec_PutRecord.B1 : List Nat := [0, 1, 0, 4, 15, 31, 0, 64, 255, 0, 512, 1536, 4095, 8191]
theorem codec_PutRecord.tab1 : rtab .any (opsOf Try.f8 1) = codec_PutRecord.T1 := by kernel_rfl
theorem codec_PutRecord.bits1 : waitsOk codec_PutRecord.T1.2 codec_PutRecord.B1 = true := by kernel_rfl
def codec_PutRecord.T2 : Bool × List (List Nat × List Nat) := (true, [([], []), ([0], [0]), ([], []), ([], []), ([3], [3]), ([2, 4, 1], [2, 4]), ([1, 5, 5], [1, 5]), ([6], [6]), ([6], [6]), ([7, 6, 0, 1, 2, 3, 4, 5, 6, 7, 8], [7]), ([8, 9, 0, 1, 2, 3, 4, 5, 6, 7, 8, 9], [8])])
def codec_PutRecord.B2 : List Nat := [0, 1, 0, 0, 8, 31, 63, 127, 127, 511, 1023]
theorem codec_PutRecord.tab2 : rtab .any (opsOf Try.f8 2) = codec_PutRecord.T2 := by kernel_rfl
theorem codec_PutRecord.bits2 : waitsOk codec_PutRecord.T2.2 codec_PutRecord.B2 = true := by kernel_rfl
theorem codec_PutRecord.calls (k : Nat) (a0_0 : Int) (a0_1 : Int) (a0_2 : ByteArray) (a0_3 : Int) (A0_4 : Option Addr) (c0_4 : Nat) (l0_4 : List (S81)) (r1 : ByteArray) (r2 : Int) (w : World) (hr0_4 : Kd.C k81 w A0_4 l0_4.length l0_4) (hc0_4 : l0_4.length ≤ c0_4) (h : codec_PutRecord.f k a0_0 a0_1 a0_2 a0_3 l0_4 = some (r1, r2)) :
  Calls Try.prog 8 #[.agg #[.int .i64 a0_0, .int .i64 a0_1, .string a0_2, .int .i64 a0_3, .slice A0_4 l0_4.length c0_4]] w fun e w' => e = .returned (.tuple #[.string r1, .int .i64 r2]) ∧ Below w.heap.size w w' := by
 have hu27 := Try.underlying27
 have HR0_4 := Aside0.mk hr0_4
 have HC0_4 := Aside0.mk hc0_4
 clear hr0_4 hc0_4
 have HB := Aside0.mk (Below.refl w.heap.size w)
 have H : ((codec_number.f k ([] : List Int) (([a0_0, a0_1] : List Int))).bind fun t193 => ((codec_text.f t193 a0_2).bind fun t196 => ((codec_number.f k t196 (([a0_3] : List Int))).bind fun t202 => ((codec_record.f k a0_0 a0_1 a0_2 a0_3 l0_4).bind fun t205 => ((api_Event__by_codec_putEvent.f k t202 l0_4).bind fun t206 => ((codec_laid.f t205 t206).bind fun bt209 => (some (bt209.1, bt209.2)))))))) = some (r1, r2) := h
 clear h
 obtain ⟨y190, hy190⟩ : ∃ y_ : List Int, y_ = (([a0_0, a0_1] : List Int)) := ⟨_, rfl⟩
 replace H : ((codec_number.f k ([] : List Int) y190).bind fun t193 => ((codec_text.f t193 a0_2).bind fun t196 => ((codec_number.f k t196 (([a0_3] : List Int))).bind fun t202 => ((codec_record.f k a0_0 a0_1 a0_2 a0_3 l0_4).bind fun t205 => ((api_Event__by_codec_putEvent.f k t202 l0_4).bind fun t206 => ((codec_laid.f t205 t206).bind fun bt209 => (some (bt209.1, bt209.2)))))))) = some (r1, r2) := by first | (rw [hy190]; with_reducible exact H) | (have H2_ := (Option.bind_some _ _).symm.trans H; rw [hy190]; with_reducible exact H2_) | (have H2_ := (Option.bind_some _ _).symm.trans H; with_reducible exact H2_) | with_reducible exact H | (rw [hy190]; exact H) | exact H
 have Ny190 := Aside0.mk hy190
 clear hy190
 replace H := Option.bind_eq_some_iff.mp H
 obtain ⟨t193, A20, H⟩ := H
 replace H : ((codec_text.f t193 a0_2).bind fun t196 => ((codec_number.f k t196 (([a0_3] : List Int))).bind fun t202 => ((codec_record.f k a0_0 a0_1 a0_2 a0_3 l0_4).bind fun t205 => ((api_Event__by_codec_putEvent.f k t202 l0_4).bind fun t206 => ((codec_laid.f t205 t206).bind fun bt209 => (some (bt209.1, bt209.2))))))) = some (r1, r2) := H
 have A2 := Aside0.mk A20
 clear A20
 replace H := Option.bind_eq_some_iff.mp H
 obtain ⟨t196, A30, H⟩ := H
 replace H : ((codec_number.f k t196 (([a0_3] : List Int))).bind fun t202 => ((codec_record.f k a0_0 a0_1 a0_2 a0_3 l0_4).bind fun t205 => ((api_Event__by_codec_putEvent.f k t202 l0_4).bind fun t206 => ((codec_laid.f t205 t206).bind fun bt209 => (some (bt209.1, bt209.2)))))) = some (r1, r2) := H
 have A3 := Aside0.mk A30
 clear A30
 obtain ⟨y199, hy199⟩ : ∃ y_ : List Int, y_ = (([a0_3] : List Int)) := ⟨_, rfl⟩
 replace H : ((codec_number.f k t196 y199).bind fun t202 => ((codec_record.f k a0_0 a0_1 a0_2 a0_3 l0_4).bind fun t205 => ((api_Event__by_codec_putEvent.f k t202 l0_4).bind fun t206 => ((codec_laid.f t205 t206).bind fun bt209 => (some (bt209.1, bt209.2)))))) = some (r1, r2) := by first | (rw [hy199]; with_reducible exact H) | (have H2_ := (Option.bind_some _ _).symm.trans H; rw [hy199]; with_reducible exact H2_) | (have H2_ := (Option.bind_some _ _).symm.trans H; with_reducible exact H2_) | with_reducible exact H | (rw [hy199]; exact H) | exact H
 have Ny199 := Aside0.mk hy199
 clear hy199
 replace H := Option.bind_eq_some_iff.mp H
 obtain ⟨t202, A40, H⟩ := H
 replace H : ((codec_record.f k a0_0 a0_1 a0_2 a0_3 l0_4).bind fun t205 => ((api_Event__by_codec_putEvent.f k t202 l0_4).bind fun t206 => ((codec_laid.f t205 t206).bind fun bt209 => (some (bt209.1, bt209.2))))) = some (r1, r2) := H
 have A4 := Aside0.mk A40
 clear A40
 replace H := Option.bind_eq_some_iff.mp H
 obtain ⟨t205, A50, H⟩ := H
 replace H : ((api_Event__by_codec_putEvent.f k t202 l0_4).bind fun t206 => ((codec_laid.f t205 t206).bind fun bt209 => (some (bt209.1, bt209.2)))) = some (r1, r2) := H
 have A5 := Aside0.mk A50
 clear A50
 replace H := Option.bind_eq_some_iff.mp H
 obtain ⟨t206, A60, H⟩ := H
 replace H : ((codec_laid.f t205 t206).bind fun bt209 => (some (bt209.1, bt209.2))) = some (r1, r2) := H
 have A6 := Aside0.mk A60
 clear A60
 replace H := Option.bind_eq_some_iff.mp H
 obtain ⟨⟨t209, t210⟩, A70, H⟩ := H
 replace H : (some (t209, t210)) = some (r1, r2) := H
 have A7 := Aside0.mk A70
 clear A70
 simp only [Option.some.injEq, Prod.mk.injEq] at H
 obtain ⟨rfl, rfl⟩ := H
 go_enter Try.func8, Try.ntmps8
 try go_wp2_with (first | ((with_reducible refine gate_dst (N := 1) rfl ?_); refine box_event ?hg (N := 1) ?hd (cs := #[.int .i64 a0_0, .int .i64 a0_1, .string a0_2, .int .i64 a0_3, .slice A0_4 l0_4.length c0_4]) (t := 27) ?hr ?_; (case hd => rfl); (case hg => rfl); (case hr => first | (go_simp; done) | (go_simp; rfl)); intro gb189 hg w8 hbox hb; have n0_ := Aside0.mk (below_step (by repeat (first | (with_reducible first | exact HB.out | apply below_alloc | apply pw_below_drewN | apply below_drew1) | exact HB.out)) hb); have n1_ := Aside0.mk (hbox); have n2_ := Aside0.mk ((by rw [hg]; exact (below_size (by repeat (first | (with_reducible first | exact HB.out | apply below_alloc | apply pw_below_drewN | apply below_drew1) | exact HB.out))) : w.heap.size ≤ gb189)); have n3_ := Aside0.mk ((by rw [hg]; exact (below_size (by repeat (first | (with_reducible first | exact HB.out | apply below_alloc | apply pw_below_drewN | apply below_drew1) | exact HB.out))) : w.heap.size ≤ gb189)); clear HB; have HB := n0_; have BK189 := n1_; have GW189 := n2_; have GE189 := n3_; clear n0_ n1_ n2_ n3_; clear hb hbox hg))
 have n0_ := Aside0.mk (blk_drew BK189.out)
 have n1_ := Aside0.mk (below_drew1 HB.out)
 clear BK189
 clear HB
 have BK189 := n0_
 have HB := n1_
 clear n0_ n1_
 refine start_ (n := 14) (S := fun w' => w'.cell? ⟨gb189, 0, none⟩ = some (.int .i64 a0_0) ∧ w'.cell? ⟨gb189, 1, none⟩ = some (.int .i64 a0_1) ∧ w'.cell? ⟨gb189, 2, none⟩ = some (.string a0_2) ∧ w'.cell? ⟨gb189, 3, none⟩ = some (.int .i64 a0_3) ∧ w'.cell? ⟨gb189, 4, none⟩ = some (.slice A0_4 l0_4.length c0_4)) (ds := []) #[ZF,ZF,ZF,ZF,ZF,ZF,ZF,ZF,ZF,ZF,ZF,ZF,ZF,ZF] (by kernel_rfl) rfl rfl ⟨(blk_cell BK189.out 0).trans rfl, (blk_cell BK189.out 1).trans rfl, (blk_cell BK189.out 2).trans rfl, (blk_cell BK189.out 3).trans rfl, (blk_cell BK189.out 4).trans rfl⟩ (fun hHeld => ?_); refine with_tabW codec_PutRecord.tab1 codec_PutRecord.bits1 (fun HT_ HW_ => ?_)
 generalize w8.drew = w9 at BK189 HB hHeld ⊢
 refine pure_ (i := 0) (N := some 5) (v := ?_) (a' := ?_) #[ZT,ZF,ZF,ZF,ZF,ZF,ZF,ZF,ZF,ZF,ZF,ZF,ZF,ZF] rfl rfl (any_of HT_.out (by kernel_rfl)) (fun _ _ _ h => h) (Or.inl ⟨by rfl, ?_⟩) ?_ ?_
 rotate_left
 ·intro w'
  go_simp
  with_reducible rfl
 rotate_left
 ·simp only [Act.put, List.setIfInBounds_toArray, List.set_cons_zero, List.set_cons_succ, i64_w, i32_w]
  rfl
 refine pure_ (i := 2) (N := some 7) (v := ?_) (a' := ?_) #[ZT,ZF,ZT,ZF,ZF,ZF,ZF,ZF,ZF,ZF,ZF,ZF,ZF,ZF] rfl rfl (any_of HT_.out (by kernel_rfl)) (fun _ _ _ h => h) (Or.inl ⟨by rfl, ?_⟩) ?_ ?_
 rotate_left
 ·intro w'
  go_simp
  with_reducible rfl
 rotate_left
 ·simp only [Act.put, List.setIfInBounds_toArray, List.set_cons_zero, List.set_cons_succ, i64_w, i32_w]
  rfl
 refine pure_ (i := 6) (N := some 11) (v := ?_) (a' := ?_) #[ZT,ZF,ZT,ZF,ZF,ZF,ZT,ZF,ZF,ZF,ZF,ZF,ZF,ZF] rfl rfl (any_of HT_.out (by kernel_rfl)) (fun _ _ _ h => h) (Or.inl ⟨by rfl, ?_⟩) ?_ ?_
 rotate_left
 ·intro w'
  go_simp
  with_reducible rfl
 rotate_left
 ·simp only [Act.put, List.setIfInBounds_toArray, List.set_cons_zero, List.set_cons_succ, i64_w, i32_w]
  rfl
 refine pure_ (i := 9) (N := some 14) (v := ?_) (a' := ?_) #[ZT,ZF,ZT,ZF,ZF,ZF,ZT,ZF,ZF,ZT,ZF,ZF,ZF,ZF] rfl rfl (any_of HT_.out (by kernel_rfl)) (fun _ _ _ h => h) (Or.inl ⟨by rfl, ?_⟩) ?_ ?_
 rotate_left
 ·intro w'
  go_simp
  with_reducible rfl
 rotate_left
 ·simp only [Act.put, List.setIfInBounds_toArray, List.set_cons_zero, List.set_cons_succ, i64_w, i32_w]
  rfl
 refine take_ (i := 1) (N := some 6) (v := ?_) (a' := ?_) #[ZT,ZT,ZT,ZF,ZF,ZF,ZT,ZF,ZF,ZT,ZF,ZF,ZF,ZF] rfl rfl (take_ofW HT_.out HW_.out (by kernel_rfl)) (fun _ _ _ h => h) (Or.inl ⟨by rfl, ?_⟩) hHeld ?_ ?_
 rotate_left
 ·rintro w' ⟨s0, s1, s2, s3, s4⟩
  go_simp
  with_reducible rfl
 rotate_left
 ·simp only [Act.put, List.setIfInBounds_toArray, List.set_cons_zero, List.set_cons_succ, i64_w, i32_w]
  rfl
 refine take_ (i := 3) (N := some 8) (v := ?_) (a' := ?_) #[ZT,ZT,ZT,ZT,ZF,ZF,ZT,ZF,ZF,ZT,ZF,ZF,ZF,ZF] rfl rfl (take_ofW HT_.out HW_.out (by kernel_rfl)) (fun _ _ _ h => h) (Or.inl ⟨by rfl, ?_⟩) hHeld ?_ ?_
 rotate_left
 ·rintro w' ⟨s0, s1, s2, s3, s4⟩
  go_simp
  with_reducible rfl
 rotate_left
 ·simp only [Act.put, List.setIfInBounds_toArray, List.set_cons_zero, List.set_cons_succ, i64_w, i32_w]
  rfl
 refine take_ (i := 7) (N := some 12) (v := ?_) (a' := ?_) #[ZT,ZT,ZT,ZT,ZF,ZF,ZT,ZT,ZF,ZT,ZF,ZF,ZF,ZF] rfl rfl (take_ofW HT_.out HW_.out (by kernel_rfl)) (fun _ _ _ h => h) (Or.inl ⟨by rfl, ?_⟩) hHeld ?_ ?_
 rotate_left
 ·rintro w' ⟨s0, s1, s2, s3, s4⟩
  go_simp
  with_reducible rfl
 rotate_left
 ·simp only [Act.put, List.setIfInBounds_toArray, List.set_cons_zero, List.set_cons_succ, i64_w, i32_w]
  rfl
 refine take_ (i := 10) (N := some 15) (v := ?_) (a' := ?_) #[ZT,ZT,ZT,ZT,ZF,ZF,ZT,ZT,ZF,ZT,ZT,ZF,ZF,ZF] rfl rfl (take_ofW HT_.out HW_.out (by kernel_rfl)) (fun _ _ _ h => h) (Or.inl ⟨by rfl, ?_⟩) hHeld ?_ ?_
 rotate_left
 ·rintro w' ⟨s0, s1, s2, s3, s4⟩
  go_simp
  with_reducible rfl
 rotate_left
 ·simp only [Act.put, List.setIfInBounds_toArray, List.set_cons_zero, List.set_cons_succ, i64_w, i32_w]
  rfl
 refine join_ (σ := Value × Value × Value × Value) 2 #[ZT,ZT,ZT,ZT,ZT,ZT,ZT,ZT,ZT,ZT,ZT,ZT,ZF,ZF] (fun s_ => [(9, s_.1), (10, s_.2.1), (13, s_.2.2.1), (16, s_.2.2.2)]) (fun s_ w' => (w'.cell? ⟨gb189, 0, none⟩ = some (.int .i64 a0_0) ∧ w'.cell? ⟨gb189, 1, none⟩ = some (.int .i64 a0_1) ∧ w'.cell? ⟨gb189, 2, none⟩ = some (.string a0_2) ∧ w'.cell? ⟨gb189, 3, none⟩ = some (.int .i64 a0_3) ∧ w'.cell? ⟨gb189, 4, none⟩ = some (.slice A0_4 l0_4.length c0_4)) ∧ (Kd.R (Kd.int .i64) 3 w' w.heap.size (fun k_ => some k_ ≠ (s_.2.2.2 : Value).ownBlock) s_.1 y190) ∧ (Kd.R (Kd.int .u8) 5 w' w.heap.size (fun _ => True) s_.2.2.1 t196) ∧ (Kd.R (Kd.int .i64) 3 w' w.heap.size (fun k_ => some k_ ≠ (s_.1 : Value).ownBlock) s_.2.2.2 y199) ∧ (w'.heap[gb189]? = some (.cells #[.int .i64 a0_0, .int .i64 a0_1, .string a0_2, .int .i64 a0_3, .slice A0_4 l0_4.length c0_4] 27 (0, 0))) ∧ (Below w.heap.size w w')) ?_ ?_
 rotate_left
 ·intro hCont
  refine two_ (i := 4) (j := 11) (Ni := some 9) (Nj := some 16) #[ZT,ZT,ZT,ZT,ZT,ZF,ZT,ZT,ZF,ZT,ZT,ZF,ZF,ZF] #[ZT,ZT,ZT,ZT,ZF,ZF,ZT,ZT,ZF,ZT,ZT,ZT,ZF,ZF] rfl rfl rfl rfl (two_of HT_.out (by kernel_rfl)) (by decide) (by decide) (fun K hK => ?_) (fun K hK => ?_)
  ·skip
   refine Kd.R_lit_step (Kd.int .i64) _ 3 ?hg (N := 9) ?hd (xs := ([a0_0, a0_1] : List Int)) (inner := [.int .i64 a0_0, .int .i64 a0_1]) (ok := fun _ => True) (okp := fun _ => True) ?hr ?hp (fun _ hk => hk) trivial (Below.refl _ _) (Nat.le_refl _) (by simp) ?_; (case hd => rfl); (case hg => rfl); (case hr => first | (go_simp; done) | (go_simp; rfl)); (case hp => exact (Reps.one (show Kd.M (Kd.int .i64) _ _ _ a0_0 [.int .i64 a0_0] from rfl) (Reps.one (show Kd.M (Kd.int .i64) _ _ _ a0_1 [.int .i64 a0_1] from rfl) (Reps.none _ _))))
   intro v191 w10 ho11 hb hg_ hnew_
   clear hg_ hnew_
   (first | rw [← Ny190.out] at ho11 | (simp only [Int.reduceToNat] at ho11; rw [← Ny190.out] at ho11))
   have n0_ := Aside0.mk (Kd.R_lower ho11 (below_size (by repeat (first | (with_reducible first | exact HB.out | apply below_alloc | apply pw_below_drewN | apply below_drew1 | refine below_set ?_ GE189.out) | exact HB.out))))
   have n1_ := Aside0.mk (blk_below (g := gb189) (o := .cells #[.int .i64 a0_0, .int .i64 a0_1, .string a0_2, .int .i64 a0_3, .slice A0_4 l0_4.length c0_4] 27 (0, 0)) (by (with_reducible repeat (first | refine blk_drewN ?_ _ | refine blk_drew ?_ | refine blk_alloc ?_ _)); exact BK189.out) hb)
   have n2_ := Aside0.mk (below_step (by repeat (first | (with_reducible first | exact HB.out | apply below_alloc | apply pw_below_drewN | apply below_drew1 | refine below_set ?_ GE189.out) | exact HB.out)) hb)
   clear BK189
   clear HB
   have HO192 := n0_
   have BK189 := n1_
   have HB := n2_
   clear n0_ n1_ n2_
   clear hb ho11
   obtain ⟨Ao12, co12, eo12⟩ := Kd.R_slice HO192.out
   (first | subst eo12 | (injection eo12 with f1_ f2_ f3_; have f4_ := f1_.symm; have f5_ := f3_.symm; clear f1_ f2_ f3_; subst f4_; subst f5_))
   refine hK.out _ _ ⟨(blk_cell BK189.out 0).trans rfl, (blk_cell BK189.out 1).trans rfl, (blk_cell BK189.out 2).trans rfl, (blk_cell BK189.out 3).trans rfl, (blk_cell BK189.out 4).trans rfl⟩ (fun hHeld => ?_)
   clear hK K
   refine norm_ (a' := ?_) ?_ ?_
   rotate_left
   ·show Act.put _ (some 9) _ = _
    simp only [Act.put, List.setIfInBounds_toArray, List.set_cons_zero, List.set_cons_succ, i64_w, i32_w]
    rfl
   refine two_ (i := 5) (j := 11) (Ni := some 10) (Nj := some 16) #[ZT,ZT,ZT,ZT,ZT,ZT,ZT,ZT,ZF,ZT,ZT,ZF,ZF,ZF] #[ZT,ZT,ZT,ZT,ZT,ZF,ZT,ZT,ZF,ZT,ZT,ZT,ZF,ZF] rfl rfl rfl rfl (two_of HT_.out (by kernel_rfl)) (by decide) (by decide) (fun K hK => ?_) (fun K hK => ?_)
   ·skip
    refine goes_ Try.func39 (by kernel_rfl) rfl #[.slice none 0 0, .slice Ao12 y190.length co12] (by rfl) rfl rfl (by (try simp only [List.map_toArray, List.map_cons, List.map_nil]); first | done | rfl | (simp only [List.length_drop, List.length_take]; rfl)) ?_
    refine (codec_number.calls k (fun k_ => some k_ = (.slice none 0 0 : Value).ownBlock) (.slice none 0 0) ([] : List Int) _ _ y190 t193 w _ ?side1 ?side2 ?side3 ?side4 A2.out).mono ?_
    (case side1 => repeat (first | (with_reducible first | exact HB.out | apply below_alloc | apply pw_below_drewN | apply below_drew1 | refine below_set ?_ GE189.out) | exact HB.out))
    (case side2 => exact Kd.R_nil _ _ _ _ _)
    (case side3 => exact Kd.C_kept_own (HO192.out) (fun k_ hk_ hs_ => (fun e_ => by simp [Value.ownBlock] at e_) hs_))
    (case side4 => exact (Kd.R_reads' HO192.out).2.1)
    rintro e w13 ⟨v194, rfl, ho0, hb, hkp⟩
    refine ⟨_, rfl, ?_⟩
    have n0_ := Aside0.mk (blk_kept (by (with_reducible repeat (first | refine blk_drewN ?_ _ | refine blk_drew ?_ | refine blk_alloc ?_ _)); exact BK189.out) hkp (fun hs_ => (fun e_ => by simp [Value.ownBlock] at e_) hs_))
    have n1_ := Aside0.mk (Kd.R_mono (ok' := fun k_ => True) (Kd.R_keptB (HO192.out) hkp (fun k_ hk_ hs_ => (fun e_ => by simp [Value.ownBlock] at e_) hs_)) (fun k_ hk_ => trivial))
    have n2_ := Aside0.mk (Kd.R_mono (ok' := fun k_ => True) ho0 (fun k_ hk_ => trivial))
    have n3_ := Aside0.mk (hb)
    clear BK189
    clear HO192
    clear HB
    have BK189 := n0_
    have HO192 := n1_
    have HO195 := n2_
    have HB := n3_
    clear n0_ n1_ n2_ n3_
    (try clear hb)
    (try clear hkp)
    (try clear ho0)
    obtain ⟨Ao14, co14, eo14⟩ := Kd.R_slice HO195.out
    (first | subst eo14 | (injection eo14 with f1_ f2_ f3_; have f4_ := f1_.symm; have f5_ := f3_.symm; clear f1_ f2_ f3_; subst f4_; subst f5_))
    refine hK.out _ _ ⟨(blk_cell BK189.out 0).trans rfl, (blk_cell BK189.out 1).trans rfl, (blk_cell BK189.out 2).trans rfl, (blk_cell BK189.out 3).trans rfl, (blk_cell BK189.out 4).trans rfl⟩ (fun hHeld => ?_)
    clear hK K
    refine norm_ (a' := ?_) ?_ ?_
    rotate_left
    ·show Act.put _ (some 10) _ = _
     simp only [Act.put, List.setIfInBounds_toArray, List.set_cons_zero, List.set_cons_succ, i64_w, i32_w]
     rfl
    refine two_ (i := 8) (j := 11) (Ni := some 13) (Nj := some 16) #[ZT,ZT,ZT,ZT,ZT,ZT,ZT,ZT,ZT,ZT,ZT,ZF,ZF,ZF] #[ZT,ZT,ZT,ZT,ZT,ZT,ZT,ZT,ZF,ZT,ZT,ZT,ZF,ZF] rfl rfl rfl rfl (two_of HT_.out (by kernel_rfl)) (by decide) (by decide) (fun K hK => ?_) (fun K hK => ?_)
    ·skip
     refine goes_ Try.func38 (by kernel_rfl) rfl #[.slice Ao14 t193.length co14, .string a0_2] (by rfl) rfl rfl (by (try simp only [List.map_toArray, List.map_cons, List.map_nil]); first | done | rfl | (simp only [List.length_drop, List.length_take]; rfl)) ?_
     with_reducible refine (codec_text.calls (fun k_ => some k_ = (.slice Ao14 t193.length co14 : Value).ownBlock) (.slice Ao14 t193.length co14) t193 a0_2 t196 w _ ?side1 ?side2 A3.out).mono ?_
     (case side1 => repeat (first | (with_reducible first | exact HB.out | apply below_alloc | apply pw_below_drewN | apply below_drew1 | refine below_set ?_ GE189.out) | exact HB.out))
     (case side2 => exact Kd.R_tight rfl HO195.out)
     rintro e w15 ⟨v197, rfl, ho0, hb, hkp⟩
     refine ⟨_, rfl, ?_⟩
     have n0_ := Aside0.mk (blk_kept (by (with_reducible repeat (first | refine blk_drewN ?_ _ | refine blk_drew ?_ | refine blk_alloc ?_ _)); exact BK189.out) hkp (fun hs_ => (fun e_ => (Kd.R_ne HO195.out BK189.out (by decide)) e_) hs_))
     have n1_ := Aside0.mk (Kd.R_mono (ok' := fun k_ => True) (Kd.R_keptB ((Kd.R_apart' HO192.out (Kd.R_typed HO195.out) (by decide))) hkp (fun k_ hk_ hs_ => (hk_.2) hs_)) (fun k_ hk_ => trivial))
     have n2_ := Aside0.mk (Kd.R_mono (ok' := fun k_ => True) ho0 (fun k_ hk_ => trivial))
     have n3_ := Aside0.mk (hb)
     clear BK189
     clear HO192
     clear HB
     clear HO195
     have BK189 := n0_
     have HO192 := n1_
     have HO198 := n2_
     have HB := n3_
     clear n0_ n1_ n2_ n3_
     (try clear hb)
     (try clear hkp)
     (try clear ho0)
     refine hK.out _ _ ⟨(blk_cell BK189.out 0).trans rfl, (blk_cell BK189.out 1).trans rfl, (blk_cell BK189.out 2).trans rfl, (blk_cell BK189.out 3).trans rfl, (blk_cell BK189.out 4).trans rfl⟩ (fun hHeld => ?_)
     clear hK K
     refine norm_ (a' := ?_) ?_ ?_
     rotate_left
     ·show Act.put _ (some 13) _ = _
      simp only [Act.put, List.setIfInBounds_toArray, List.set_cons_zero, List.set_cons_succ, i64_w, i32_w]
      rfl
     refine one_ (i := 11) (N := some 16) #[ZT,ZT,ZT,ZT,ZT,ZT,ZT,ZT,ZT,ZT,ZT,ZT,ZF,ZF] rfl rfl (one_of HT_.out (by kernel_rfl)) (by decide) (fun K hK => ?_)
     refine Kd.R_lit_step (Kd.int .i64) _ 3 ?hg (N := 16) ?hd (xs := ([a0_3] : List Int)) (inner := [.int .i64 a0_3]) (ok := fun _ => True) (okp := fun _ => True) ?hr ?hp (fun _ hk => hk) trivial (Below.refl _ _) (Nat.le_refl _) (by simp) ?_; (case hd => rfl); (case hg => rfl); (case hr => first | (go_simp; done) | (go_simp; rfl)); (case hp => exact (Reps.one (show Kd.M (Kd.int .i64) _ _ _ a0_3 [.int .i64 a0_3] from rfl) (Reps.none _ _)))
     intro v200 w16 ho17 hb hg_ hnew_
     clear hg_ hnew_
     (first | rw [← Ny199.out] at ho17 | (simp only [Int.reduceToNat] at ho17; rw [← Ny199.out] at ho17))
     have n0_ := Aside0.mk (Kd.R_elder' (by (with_reducible repeat (first | apply Kd.R_alloc | apply Kd.R_drewN | apply Kd.R_drew)); exact HO192.out) (Kd.R_base ho17) hb)
     have n1_ := Aside0.mk (Kd.R_below (by (with_reducible repeat (first | apply Kd.R_alloc | apply Kd.R_drewN | apply Kd.R_drew)); exact HO198.out) hb)
     have n2_ := Aside0.mk (Kd.R_lower (Kd.R_new' ho17 (Kd.R_lt (by (with_reducible repeat (first | apply Kd.R_alloc | apply Kd.R_drewN | apply Kd.R_drew)); exact HO192.out))) (below_size (by repeat (first | (with_reducible first | exact HB.out | apply below_alloc | apply pw_below_drewN | apply below_drew1 | refine below_set ?_ GE189.out) | exact HB.out))))
     have n3_ := Aside0.mk (blk_below (g := gb189) (o := .cells #[.int .i64 a0_0, .int .i64 a0_1, .string a0_2, .int .i64 a0_3, .slice A0_4 l0_4.length c0_4] 27 (0, 0)) (by (with_reducible repeat (first | refine blk_drewN ?_ _ | refine blk_drew ?_ | refine blk_alloc ?_ _)); exact BK189.out) hb)
     have n4_ := Aside0.mk (below_step (by repeat (first | (with_reducible first | exact HB.out | apply below_alloc | apply pw_below_drewN | apply below_drew1 | refine below_set ?_ GE189.out) | exact HB.out)) hb)
     clear HO192
     clear HO198
     clear BK189
     clear HB
     have HO192 := n0_
     have HO198 := n1_
     have HO201 := n2_
     have BK189 := n3_
     have HB := n4_
     clear n0_ n1_ n2_ n3_ n4_
     clear hb ho17
     refine hK.out _ _ ⟨(blk_cell BK189.out 0).trans rfl, (blk_cell BK189.out 1).trans rfl, (blk_cell BK189.out 2).trans rfl, (blk_cell BK189.out 3).trans rfl, (blk_cell BK189.out 4).trans rfl⟩ (fun hHeld => ?_)
     clear hK K
     refine norm_ (a' := ?_) ?_ ?_
     rotate_left
     ·show Act.put _ (some 16) _ = _
      simp only [Act.put, List.setIfInBounds_toArray, List.set_cons_zero, List.set_cons_succ, i64_w, i32_w]
      rfl
     exact norm_ (by simp only [putAll, Act.put, List.setIfInBounds_toArray, List.set_cons_zero, List.set_cons_succ]) (hCont (.slice Ao12 y190.length co12, .slice Ao14 t193.length co14, v197, v200) _ ⟨hHeld, (by (with_reducible repeat (first | apply Kd.R_alloc | apply Kd.R_drewN | apply Kd.R_drew)); exact Kd.R_mono HO192.out (fun _ hk => hk.2)), (by (with_reducible repeat (first | apply Kd.R_alloc | apply Kd.R_drewN | apply Kd.R_drew)); exact HO198.out), (by (with_reducible repeat (first | apply Kd.R_alloc | apply Kd.R_drewN | apply Kd.R_drew)); exact Kd.R_mono HO201.out (fun _ hk => hk.2)), (by (with_reducible repeat (first | refine blk_drewN ?_ _ | refine blk_drew ?_ | refine blk_alloc ?_ _)); exact BK189.out), (by repeat (first | (with_reducible first | exact HB.out | apply below_alloc | apply pw_below_drewN | apply below_drew1 | refine below_set ?_ GE189.out) | exact HB.out))⟩)
    ·skip
     refine Kd.R_lit_step (Kd.int .i64) _ 3 ?hg (N := 16) ?hd (xs := ([a0_3] : List Int)) (inner := [.int .i64 a0_3]) (ok := fun _ => True) (okp := fun _ => True) ?hr ?hp (fun _ hk => hk) trivial (Below.refl _ _) (Nat.le_refl _) (by simp) ?_; (case hd => rfl); (case hg => rfl); (case hr => first | (go_simp; done) | (go_simp; rfl)); (case hp => exact (Reps.one (show Kd.M (Kd.int .i64) _ _ _ a0_3 [.int .i64 a0_3] from rfl) (Reps.none _ _)))
     intro v200 w14 ho15 hb hg_ hnew_
     clear hg_ hnew_
     (first | rw [← Ny199.out] at ho15 | (simp only [Int.reduceToNat] at ho15; rw [← Ny199.out] at ho15))
     have n0_ := Aside0.mk (Kd.R_elder' (by (with_reducible repeat (first | apply Kd.R_alloc | apply Kd.R_drewN | apply Kd.R_drew)); exact HO192.out) (Kd.R_base ho15) hb)
     have n1_ := Aside0.mk (Kd.R_below (by (with_reducible repeat (first | apply Kd.R_alloc | apply Kd.R_drewN | apply Kd.R_drew)); exact HO195.out) hb)
     have n2_ := Aside0.mk (Kd.R_lower (Kd.R_new' ho15 (Kd.R_lt (by (with_reducible repeat (first | apply Kd.R_alloc | apply Kd.R_drewN | apply Kd.R_drew)); exact HO192.out))) (below_size (by repeat (first | (with_reducible first | exact HB.out | apply below_alloc | apply pw_below_drewN | apply below_drew1 | refine below_set ?_ GE189.out) | exact HB.out))))
     have n3_ := Aside0.mk (blk_below (g := gb189) (o := .cells #[.int .i64 a0_0, .int .i64 a0_1, .string a0_2, .int .i64 a0_3, .slice A0_4 l0_4.length c0_4] 27 (0, 0)) (by (with_reducible repeat (first | refine blk_drewN ?_ _ | refine blk_drew ?_ | refine blk_alloc ?_ _)); exact BK189.out) hb)
     have n4_ := Aside0.mk (below_step (by repeat (first | (with_reducible first | exact HB.out | apply below_alloc | apply pw_below_drewN | apply below_drew1 | refine below_set ?_ GE189.out) | exact HB.out)) hb)
     clear HO192
     clear HO195
     clear BK189
     clear HB
     have HO192 := n0_
     have HO195 := n1_
     have HO201 := n2_
     have BK189 := n3_
     have HB := n4_
     clear n0_ n1_ n2_ n3_ n4_
     clear hb ho15
     obtain ⟨Ao16, co16, eo16⟩ := Kd.R_slice HO195.out
     (first | subst eo16 | (injection eo16 with f1_ f2_ f3_; have f4_ := f1_.symm; have f5_ := f3_.symm; clear f1_ f2_ f3_; subst f4_; subst f5_))
     refine hK.out _ _ ⟨(blk_cell BK189.out 0).trans rfl, (blk_cell BK189.out 1).trans rfl, (blk_cell BK189.out 2).trans rfl, (blk_cell BK189.out 3).trans rfl, (blk_cell BK189.out 4).trans rfl⟩ (fun hHeld => ?_)
     clear hK K
     refine norm_ (a' := ?_) ?_ ?_
     rotate_left
     ·show Act.put _ (some 16) _ = _
      simp only [Act.put, List.setIfInBounds_toArray, List.set_cons_zero, List.set_cons_succ, i64_w, i32_w]
      rfl
     refine one_ (i := 8) (N := some 13) #[ZT,ZT,ZT,ZT,ZT,ZT,ZT,ZT,ZT,ZT,ZT,ZT,ZF,ZF] rfl rfl (one_of HT_.out (by kernel_rfl)) (by decide) (fun K hK => ?_)
     refine goes_ Try.func38 (by kernel_rfl) rfl #[.slice Ao16 t193.length co16, .string a0_2] (by rfl) rfl rfl (by (try simp only [List.map_toArray, List.map_cons, List.map_nil]); first | done | rfl | (simp only [List.length_drop, List.length_take]; rfl)) ?_
     with_reducible refine (codec_text.calls (fun k_ => some k_ = (.slice Ao16 t193.length co16 : Value).ownBlock) (.slice Ao16 t193.length co16) t193 a0_2 t196 w _ ?side1 ?side2 A3.out).mono ?_
     (case side1 => repeat (first | (with_reducible first | exact HB.out | apply below_alloc | apply pw_below_drewN | apply below_drew1 | refine below_set ?_ GE189.out) | exact HB.out))
     (case side2 => exact Kd.R_tight rfl HO195.out)
     rintro e w17 ⟨v197, rfl, ho0, hb, hkp⟩
     refine ⟨_, rfl, ?_⟩
     have n0_ := Aside0.mk (blk_kept (by (with_reducible repeat (first | refine blk_drewN ?_ _ | refine blk_drew ?_ | refine blk_alloc ?_ _)); exact BK189.out) hkp (fun hs_ => (fun e_ => (Kd.R_ne HO195.out BK189.out (by decide)) e_) hs_))
     have n1_ := Aside0.mk (Kd.R_mono (ok' := fun k_ => some k_ ≠ (v200 : Value).ownBlock) (Kd.R_keptB ((Kd.R_apart' HO192.out (Kd.R_typed HO195.out) (by decide))) hkp (fun k_ hk_ hs_ => (hk_.2) hs_)) (fun k_ hk_ => hk_.1.1.2))
     have n2_ := Aside0.mk (Kd.R_mono (ok' := fun k_ => some k_ ≠ (.slice Ao12 y190.length co12 : Value).ownBlock) (Kd.R_keptB ((Kd.R_apart' HO201.out (Kd.R_typed HO195.out) (by decide))) hkp (fun k_ hk_ hs_ => (hk_.2) hs_)) (fun k_ hk_ => hk_.1.1.2))
     have n3_ := Aside0.mk (Kd.R_mono (ok' := fun k_ => True) ho0 (fun k_ hk_ => trivial))
     have n4_ := Aside0.mk (hb)
     clear BK189
     clear HO192
     clear HO201
     clear HB
     clear HO195
     have BK189 := n0_
     have HO192 := n1_
     have HO201 := n2_
     have HO198 := n3_
     have HB := n4_
     clear n0_ n1_ n2_ n3_ n4_
     (try clear hb)
     (try clear hkp)
     (try clear ho0)
     refine hK.out _ _ ⟨(blk_cell BK189.out 0).trans rfl, (blk_cell BK189.out 1).trans rfl, (blk_cell BK189.out 2).trans rfl, (blk_cell BK189.out 3).trans rfl, (blk_cell BK189.out 4).trans rfl⟩ (fun hHeld => ?_)
     clear hK K
     refine norm_ (a' := ?_) ?_ ?_
     rotate_left
     ·show Act.put _ (some 13) _ = _
      simp only [Act.put, List.setIfInBounds_toArray, List.set_cons_zero, List.set_cons_succ, i64_w, i32_w]
      rfl
     exact norm_ (by simp only [putAll, Act.put, List.setIfInBounds_toArray, List.set_cons_zero, List.set_cons_succ]) (hCont (.slice Ao12 y190.length co12, .slice Ao16 t193.length co16, v197, v200) _ ⟨hHeld, (by (with_reducible repeat (first | apply Kd.R_alloc | apply Kd.R_drewN | apply Kd.R_drew)); exact HO192.out), (by (with_reducible repeat (first | apply Kd.R_alloc | apply Kd.R_drewN | apply Kd.R_drew)); exact HO198.out), (by (with_reducible repeat (first | apply Kd.R_alloc | apply Kd.R_drewN | apply Kd.R_drew)); exact HO201.out), (by (with_reducible repeat (first | refine blk_drewN ?_ _ | refine blk_drew ?_ | refine blk_alloc ?_ _)); exact BK189.out), (by repeat (first | (with_reducible first | exact HB.out | apply below_alloc | apply pw_below_drewN | apply below_drew1 | refine below_set ?_ GE189.out) | exact HB.out))⟩)
   ·skip
    refine Kd.R_lit_step (Kd.int .i64) _ 3 ?hg (N := 16) ?hd (xs := ([a0_3] : List Int)) (inner := [.int .i64 a0_3]) (ok := fun _ => True) (okp := fun _ => True) ?hr ?hp (fun _ hk => hk) trivial (Below.refl _ _) (Nat.le_refl _) (by simp) ?_; (case hd => rfl); (case hg => rfl); (case hr => first | (go_simp; done) | (go_simp; rfl)); (case hp => exact (Reps.one (show Kd.M (Kd.int .i64) _ _ _ a0_3 [.int .i64 a0_3] from rfl) (Reps.none _ _)))
    intro v200 w12 ho13 hb hg_ hnew_
    clear hg_ hnew_
    (first | rw [← Ny199.out] at ho13 | (simp only [Int.reduceToNat] at ho13; rw [← Ny199.out] at ho13))
    have n0_ := Aside0.mk (Kd.R_elder' (by (with_reducible repeat (first | apply Kd.R_alloc | apply Kd.R_drewN | apply Kd.R_drew)); exact HO192.out) (Kd.R_base ho13) hb)
    have n1_ := Aside0.mk (Kd.R_lower (Kd.R_new' ho13 (Kd.R_lt (by (with_reducible repeat (first | apply Kd.R_alloc | apply Kd.R_drewN | apply Kd.R_drew)); exact HO192.out))) (below_size (by repeat (first | (with_reducible first | exact HB.out | apply below_alloc | apply pw_below_drewN | apply below_drew1 | refine below_set ?_ GE189.out) | exact HB.out))))
    have n2_ := Aside0.mk (blk_below (g := gb189) (o := .cells #[.int .i64 a0_0, .int .i64 a0_1, .string a0_2, .int .i64 a0_3, .slice A0_4 l0_4.length c0_4] 27 (0, 0)) (by (with_reducible repeat (first | refine blk_drewN ?_ _ | refine blk_drew ?_ | refine blk_alloc ?_ _)); exact BK189.out) hb)
    have n3_ := Aside0.mk (below_step (by repeat (first | (with_reducible first | exact HB.out | apply below_alloc | apply pw_below_drewN | apply below_drew1 | refine below_set ?_ GE189.out) | exact HB.out)) hb)
    clear HO192
    clear BK189
    clear HB
    have HO192 := n0_
    have HO201 := n1_
    have BK189 := n2_
    have HB := n3_
    clear n0_ n1_ n2_ n3_
    clear hb ho13
    obtain ⟨Ao14, co14, eo14⟩ := Kd.R_slice HO192.out
    (first | subst eo14 | (injection eo14 with f1_ f2_ f3_; have f4_ := f1_.symm; have f5_ := f3_.symm; clear f1_ f2_ f3_; subst f4_; subst f5_))
    refine hK.out _ _ ⟨(blk_cell BK189.out 0).trans rfl, (blk_cell BK189.out 1).trans rfl, (blk_cell BK189.out 2).trans rfl, (blk_cell BK189.out 3).trans rfl, (blk_cell BK189.out 4).trans rfl⟩ (fun hHeld => ?_)
    clear hK K
    refine norm_ (a' := ?_) ?_ ?_
    rotate_left
    ·show Act.put _ (some 16) _ = _
     simp only [Act.put, List.setIfInBounds_toArray, List.set_cons_zero, List.set_cons_succ, i64_w, i32_w]
     rfl
    refine one_ (i := 5) (N := some 10) #[ZT,ZT,ZT,ZT,ZT,ZT,ZT,ZT,ZF,ZT,ZT,ZT,ZF,ZF] rfl rfl (one_of HT_.out (by kernel_rfl)) (by decide) (fun K hK => ?_)
    refine goes_ Try.func39 (by kernel_rfl) rfl #[.slice none 0 0, .slice Ao14 y190.length co14] (by rfl) rfl rfl (by (try simp only [List.map_toArray, List.map_cons, List.map_nil]); first | done | rfl | (simp only [List.length_drop, List.length_take]; rfl)) ?_
    refine (codec_number.calls k (fun k_ => some k_ = (.slice none 0 0 : Value).ownBlock) (.slice none 0 0) ([] : List Int) _ _ y190 t193 w _ ?side1 ?side2 ?side3 ?side4 A2.out).mono ?_
    (case side1 => repeat (first | (with_reducible first | exact HB.out | apply below_alloc | apply pw_below_drewN | apply below_drew1 | refine below_set ?_ GE189.out) | exact HB.out))
    (case side2 => exact Kd.R_nil _ _ _ _ _)
    (case side3 => exact Kd.C_kept_own (HO192.out) (fun k_ hk_ hs_ => (fun e_ => by simp [Value.ownBlock] at e_) hs_))
    (case side4 => exact (Kd.R_reads' HO192.out).2.1)
    rintro e w15 ⟨v194, rfl, ho0, hb, hkp⟩
    refine ⟨_, rfl, ?_⟩
    have n0_ := Aside0.mk (blk_kept (by (with_reducible repeat (first | refine blk_drewN ?_ _ | refine blk_drew ?_ | refine blk_alloc ?_ _)); exact BK189.out) hkp (fun hs_ => (fun e_ => by simp [Value.ownBlock] at e_) hs_))
    have n1_ := Aside0.mk (Kd.R_mono (ok' := fun k_ => some k_ ≠ (v200 : Value).ownBlock) (Kd.R_keptB (HO192.out) hkp (fun k_ hk_ hs_ => (fun e_ => by simp [Value.ownBlock] at e_) hs_)) (fun k_ hk_ => hk_.1.2))
    have n2_ := Aside0.mk (Kd.R_mono (ok' := fun k_ => some k_ ≠ (.slice Ao14 y190.length co14 : Value).ownBlock) (Kd.R_keptB (HO201.out) hkp (fun k_ hk_ hs_ => (fun e_ => by simp [Value.ownBlock] at e_) hs_)) (fun k_ hk_ => hk_.1.2))
    have n3_ := Aside0.mk (Kd.R_mono (ok' := fun k_ => True) ho0 (fun k_ hk_ => trivial))
    have n4_ := Aside0.mk (hb)
    clear BK189
    clear HO192
    clear HO201
    clear HB
    have BK189 := n0_
    have HO192 := n1_
    have HO201 := n2_
    have HO195 := n3_
    have HB := n4_
    clear n0_ n1_ n2_ n3_ n4_
    (try clear hb)
    (try clear hkp)
    (try clear ho0)
    obtain ⟨Ao16, co16, eo16⟩ := Kd.R_slice HO195.out
    (first | subst eo16 | (injection eo16 with f1_ f2_ f3_; have f4_ := f1_.symm; have f5_ := f3_.symm; clear f1_ f2_ f3_; subst f4_; subst f5_))
    refine hK.out _ _ ⟨(blk_cell BK189.out 0).trans rfl, (blk_cell BK189.out 1).trans rfl, (blk_cell BK189.out 2).trans rfl, (blk_cell BK189.out 3).trans rfl, (blk_cell BK189.out 4).trans rfl⟩ (fun hHeld => ?_)
    clear hK K
    refine norm_ (a' := ?_) ?_ ?_
    rotate_left
    ·show Act.put _ (some 10) _ = _
     simp only [Act.put, List.setIfInBounds_toArray, List.set_cons_zero, List.set_cons_succ, i64_w, i32_w]
     rfl
    refine one_ (i := 8) (N := some 13) #[ZT,ZT,ZT,ZT,ZT,ZT,ZT,ZT,ZT,ZT,ZT,ZT,ZF,ZF] rfl rfl (one_of HT_.out (by kernel_rfl)) (by decide) (fun K hK => ?_)
    refine goes_ Try.func38 (by kernel_rfl) rfl #[.slice Ao16 t193.length co16, .string a0_2] (by rfl) rfl rfl (by (try simp only [List.map_toArray, List.map_cons, List.map_nil]); first | done | rfl | (simp only [List.length_drop, List.length_take]; rfl)) ?_
    with_reducible refine (codec_text.calls (fun k_ => some k_ = (.slice Ao16 t193.length co16 : Value).ownBlock) (.slice Ao16 t193.length co16) t193 a0_2 t196 w _ ?side1 ?side2 A3.out).mono ?_
    (case side1 => repeat (first | (with_reducible first | exact HB.out | apply below_alloc | apply pw_below_drewN | apply below_drew1 | refine below_set ?_ GE189.out) | exact HB.out))
    (case side2 => exact Kd.R_tight rfl HO195.out)
    rintro e w17 ⟨v197, rfl, ho0, hb, hkp⟩
    refine ⟨_, rfl, ?_⟩
    have n0_ := Aside0.mk (blk_kept (by (with_reducible repeat (first | refine blk_drewN ?_ _ | refine blk_drew ?_ | refine blk_alloc ?_ _)); exact BK189.out) hkp (fun hs_ => (fun e_ => (Kd.R_ne HO195.out BK189.out (by decide)) e_) hs_))
    have n1_ := Aside0.mk (Kd.R_mono (ok' := fun k_ => some k_ ≠ (v200 : Value).ownBlock) (Kd.R_keptB ((Kd.R_apart' HO192.out (Kd.R_typed HO195.out) (by decide))) hkp (fun k_ hk_ hs_ => (hk_.2) hs_)) (fun k_ hk_ => hk_.1.1))
    have n2_ := Aside0.mk (Kd.R_mono (ok' := fun k_ => some k_ ≠ (.slice Ao14 y190.length co14 : Value).ownBlock) (Kd.R_keptB ((Kd.R_apart' HO201.out (Kd.R_typed HO195.out) (by decide))) hkp (fun k_ hk_ hs_ => (hk_.2) hs_)) (fun k_ hk_ => hk_.1.1))
    have n3_ := Aside0.mk (Kd.R_mono (ok' := fun k_ => True) ho0 (fun k_ hk_ => trivial))
    have n4_ := Aside0.mk (hb)
    clear BK189
    clear HO192
    clear HO201
    clear HB
    clear HO195
    have BK189 := n0_
    have HO192 := n1_
    have HO201 := n2_
    have HO198 := n3_
    have HB := n4_
    clear n0_ n1_ n2_ n3_ n4_
    (try clear hb)
    (try clear hkp)
    (try clear ho0)
    refine hK.out _ _ ⟨(blk_cell BK189.out 0).trans rfl, (blk_cell BK189.out 1).trans rfl, (blk_cell BK189.out 2).trans rfl, (blk_cell BK189.out 3).trans rfl, (blk_cell BK189.out 4).trans rfl⟩ (fun hHeld => ?_)
    clear hK K
    refine norm_ (a' := ?_) ?_ ?_
    rotate_left
    ·show Act.put _ (some 13) _ = _
     simp only [Act.put, List.setIfInBounds_toArray, List.set_cons_zero, List.set_cons_succ, i64_w, i32_w]
     rfl
    exact norm_ (by simp only [putAll, Act.put, List.setIfInBounds_toArray, List.set_cons_zero, List.set_cons_succ]) (hCont (.slice Ao14 y190.length co14, .slice Ao16 t193.length co16, v197, v200) _ ⟨hHeld, (by (with_reducible repeat (first | apply Kd.R_alloc | apply Kd.R_drewN | apply Kd.R_drew)); exact HO192.out), (by (with_reducible repeat (first | apply Kd.R_alloc | apply Kd.R_drewN | apply Kd.R_drew)); exact HO198.out), (by (with_reducible repeat (first | apply Kd.R_alloc | apply Kd.R_drewN | apply Kd.R_drew)); exact HO201.out), (by (with_reducible repeat (first | refine blk_drewN ?_ _ | refine blk_drew ?_ | refine blk_alloc ?_ _)); exact BK189.out), (by repeat (first | (with_reducible first | exact HB.out | apply below_alloc | apply pw_below_drewN | apply below_drew1 | refine below_set ?_ GE189.out) | exact HB.out))⟩)
  ·skip
   refine Kd.R_lit_step (Kd.int .i64) _ 3 ?hg (N := 16) ?hd (xs := ([a0_3] : List Int)) (inner := [.int .i64 a0_3]) (ok := fun _ => True) (okp := fun _ => True) ?hr ?hp (fun _ hk => hk) trivial (Below.refl _ _) (Nat.le_refl _) (by simp) ?_; (case hd => rfl); (case hg => rfl); (case hr => first | (go_simp; done) | (go_simp; rfl)); (case hp => exact (Reps.one (show Kd.M (Kd.int .i64) _ _ _ a0_3 [.int .i64 a0_3] from rfl) (Reps.none _ _)))
   intro v200 w10 ho11 hb hg_ hnew_
   clear hg_ hnew_
   (first | rw [← Ny199.out] at ho11 | (simp only [Int.reduceToNat] at ho11; rw [← Ny199.out] at ho11))
   have n0_ := Aside0.mk (Kd.R_lower ho11 (below_size (by repeat (first | (with_reducible first | exact HB.out | apply below_alloc | apply pw_below_drewN | apply below_drew1 | refine below_set ?_ GE189.out) | exact HB.out))))
   have n1_ := Aside0.mk (blk_below (g := gb189) (o := .cells #[.int .i64 a0_0, .int .i64 a0_1, .string a0_2, .int .i64 a0_3, .slice A0_4 l0_4.length c0_4] 27 (0, 0)) (by (with_reducible repeat (first | refine blk_drewN ?_ _ | refine blk_drew ?_ | refine blk_alloc ?_ _)); exact BK189.out) hb)
   have n2_ := Aside0.mk (below_step (by repeat (first | (with_reducible first | exact HB.out | apply below_alloc | apply pw_below_drewN | apply below_drew1 | refine below_set ?_ GE189.out) | exact HB.out)) hb)
   clear BK189
   clear HB
   have HO201 := n0_
   have BK189 := n1_
   have HB := n2_
   clear n0_ n1_ n2_
   clear hb ho11
   refine hK.out _ _ ⟨(blk_cell BK189.out 0).trans rfl, (blk_cell BK189.out 1).trans rfl, (blk_cell BK189.out 2).trans rfl, (blk_cell BK189.out 3).trans rfl, (blk_cell BK189.out 4).trans rfl⟩ (fun hHeld => ?_)
   clear hK K
   refine norm_ (a' := ?_) ?_ ?_
   rotate_left
   ·show Act.put _ (some 16) _ = _
    simp only [Act.put, List.setIfInBounds_toArray, List.set_cons_zero, List.set_cons_succ, i64_w, i32_w]
    rfl
   refine one_ (i := 4) (N := some 9) #[ZT,ZT,ZT,ZT,ZT,ZF,ZT,ZT,ZF,ZT,ZT,ZT,ZF,ZF] rfl rfl (one_of HT_.out (by kernel_rfl)) (by decide) (fun K hK => ?_)
   refine Kd.R_lit_step (Kd.int .i64) _ 3 ?hg (N := 9) ?hd (xs := ([a0_0, a0_1] : List Int)) (inner := [.int .i64 a0_0, .int .i64 a0_1]) (ok := fun _ => True) (okp := fun _ => True) ?hr ?hp (fun _ hk => hk) trivial (Below.refl _ _) (Nat.le_refl _) (by simp) ?_; (case hd => rfl); (case hg => rfl); (case hr => first | (go_simp; done) | (go_simp; rfl)); (case hp => exact (Reps.one (show Kd.M (Kd.int .i64) _ _ _ a0_0 [.int .i64 a0_0] from rfl) (Reps.one (show Kd.M (Kd.int .i64) _ _ _ a0_1 [.int .i64 a0_1] from rfl) (Reps.none _ _))))
   intro v191 w12 ho13 hb hg_ hnew_
   clear hg_ hnew_
   (first | rw [← Ny190.out] at ho13 | (simp only [Int.reduceToNat] at ho13; rw [← Ny190.out] at ho13))
   have n0_ := Aside0.mk (Kd.R_elder' (by (with_reducible repeat (first | apply Kd.R_alloc | apply Kd.R_drewN | apply Kd.R_drew)); exact HO201.out) (Kd.R_base ho13) hb)
   have n1_ := Aside0.mk (Kd.R_lower (Kd.R_new' ho13 (Kd.R_lt (by (with_reducible repeat (first | apply Kd.R_alloc | apply Kd.R_drewN | apply Kd.R_drew)); exact HO201.out))) (below_size (by repeat (first | (with_reducible first | exact HB.out | apply below_alloc | apply pw_below_drewN | apply below_drew1 | refine below_set ?_ GE189.out) | exact HB.out))))
   have n2_ := Aside0.mk (blk_below (g := gb189) (o := .cells #[.int .i64 a0_0, .int .i64 a0_1, .string a0_2, .int .i64 a0_3, .slice A0_4 l0_4.length c0_4] 27 (0, 0)) (by (with_reducible repeat (first | refine blk_drewN ?_ _ | refine blk_drew ?_ | refine blk_alloc ?_ _)); exact BK189.out) hb)
   have n3_ := Aside0.mk (below_step (by repeat (first | (with_reducible first | exact HB.out | apply below_alloc | apply pw_below_drewN | apply below_drew1 | refine below_set ?_ GE189.out) | exact HB.out)) hb)
   clear HO201
   clear BK189
   clear HB
   have HO201 := n0_
   have HO192 := n1_
   have BK189 := n2_
   have HB := n3_
   clear n0_ n1_ n2_ n3_
   clear hb ho13
   obtain ⟨Ao14, co14, eo14⟩ := Kd.R_slice HO192.out
   (first | subst eo14 | (injection eo14 with f1_ f2_ f3_; have f4_ := f1_.symm; have f5_ := f3_.symm; clear f1_ f2_ f3_; subst f4_; subst f5_))
   refine hK.out _ _ ⟨(blk_cell BK189.out 0).trans rfl, (blk_cell BK189.out 1).trans rfl, (blk_cell BK189.out 2).trans rfl, (blk_cell BK189.out 3).trans rfl, (blk_cell BK189.out 4).trans rfl⟩ (fun hHeld => ?_)
   clear hK K
   refine norm_ (a' := ?_) ?_ ?_
   rotate_left
   ·show Act.put _ (some 9) _ = _
    simp only [Act.put, List.setIfInBounds_toArray, List.set_cons_zero, List.set_cons_succ, i64_w, i32_w]
    rfl
   refine one_ (i := 5) (N := some 10) #[ZT,ZT,ZT,ZT,ZT,ZT,ZT,ZT,ZF,ZT,ZT,ZT,ZF,ZF] rfl rfl (one_of HT_.out (by kernel_rfl)) (by decide) (fun K hK => ?_)
   refine goes_ Try.func39 (by kernel_rfl) rfl #[.slice none 0 0, .slice Ao14 y190.length co14] (by rfl) rfl rfl (by (try simp only [List.map_toArray, List.map_cons, List.map_nil]); first | done | rfl | (simp only [List.length_drop, List.length_take]; rfl)) ?_
   refine (codec_number.calls k (fun k_ => some k_ = (.slice none 0 0 : Value).ownBlock) (.slice none 0 0) ([] : List Int) _ _ y190 t193 w _ ?side1 ?side2 ?side3 ?side4 A2.out).mono ?_
   (case side1 => repeat (first | (with_reducible first | exact HB.out | apply below_alloc | apply pw_below_drewN | apply below_drew1 | refine below_set ?_ GE189.out) | exact HB.out))
   (case side2 => exact Kd.R_nil _ _ _ _ _)
   (case side3 => exact Kd.C_kept_own (HO192.out) (fun k_ hk_ hs_ => (fun e_ => by simp [Value.ownBlock] at e_) hs_))
   (case side4 => exact (Kd.R_reads' HO192.out).2.1)
   rintro e w15 ⟨v194, rfl, ho0, hb, hkp⟩
   refine ⟨_, rfl, ?_⟩
   have n0_ := Aside0.mk (blk_kept (by (with_reducible repeat (first | refine blk_drewN ?_ _ | refine blk_drew ?_ | refine blk_alloc ?_ _)); exact BK189.out) hkp (fun hs_ => (fun e_ => by simp [Value.ownBlock] at e_) hs_))
   have n1_ := Aside0.mk (Kd.R_mono (ok' := fun k_ => some k_ ≠ (.slice Ao14 y190.length co14 : Value).ownBlock) (Kd.R_keptB (HO201.out) hkp (fun k_ hk_ hs_ => (fun e_ => by simp [Value.ownBlock] at e_) hs_)) (fun k_ hk_ => hk_.1.2))
   have n2_ := Aside0.mk (Kd.R_mono (ok' := fun k_ => some k_ ≠ (v200 : Value).ownBlock) (Kd.R_keptB (HO192.out) hkp (fun k_ hk_ hs_ => (fun e_ => by simp [Value.ownBlock] at e_) hs_)) (fun k_ hk_ => hk_.1.2))
   have n3_ := Aside0.mk (Kd.R_mono (ok' := fun k_ => True) ho0 (fun k_ hk_ => trivial))
   have n4_ := Aside0.mk (hb)
   clear BK189
   clear HO201
   clear HO192
   clear HB
   have BK189 := n0_
   have HO201 := n1_
   have HO192 := n2_
   have HO195 := n3_
   have HB := n4_
   clear n0_ n1_ n2_ n3_ n4_
   (try clear hb)
   (try clear hkp)
   (try clear ho0)
   obtain ⟨Ao16, co16, eo16⟩ := Kd.R_slice HO195.out
   (first | subst eo16 | (injection eo16 with f1_ f2_ f3_; have f4_ := f1_.symm; have f5_ := f3_.symm; clear f1_ f2_ f3_; subst f4_; subst f5_))
   refine hK.out _ _ ⟨(blk_cell BK189.out 0).trans rfl, (blk_cell BK189.out 1).trans rfl, (blk_cell BK189.out 2).trans rfl, (blk_cell BK189.out 3).trans rfl, (blk_cell BK189.out 4).trans rfl⟩ (fun hHeld => ?_)
   clear hK K
   refine norm_ (a' := ?_) ?_ ?_
   rotate_left
   ·show Act.put _ (some 10) _ = _
    simp only [Act.put, List.setIfInBounds_toArray, List.set_cons_zero, List.set_cons_succ, i64_w, i32_w]
    rfl
   refine one_ (i := 8) (N := some 13) #[ZT,ZT,ZT,ZT,ZT,ZT,ZT,ZT,ZT,ZT,ZT,ZT,ZF,ZF] rfl rfl (one_of HT_.out (by kernel_rfl)) (by decide) (fun K hK => ?_)
   refine goes_ Try.func38 (by kernel_rfl) rfl #[.slice Ao16 t193.length co16, .string a0_2] (by rfl) rfl rfl (by (try simp only [List.map_toArray, List.map_cons, List.map_nil]); first | done | rfl | (simp only [List.length_drop, List.length_take]; rfl)) ?_
   with_reducible refine (codec_text.calls (fun k_ => some k_ = (.slice Ao16 t193.length co16 : Value).ownBlock) (.slice Ao16 t193.length co16) t193 a0_2 t196 w _ ?side1 ?side2 A3.out).mono ?_
   (case side1 => repeat (first | (with_reducible first | exact HB.out | apply below_alloc | apply pw_below_drewN | apply below_drew1 | refine below_set ?_ GE189.out) | exact HB.out))
   (case side2 => exact Kd.R_tight rfl HO195.out)
   rintro e w17 ⟨v197, rfl, ho0, hb, hkp⟩
   refine ⟨_, rfl, ?_⟩
   have n0_ := Aside0.mk (blk_kept (by (with_reducible repeat (first | refine blk_drewN ?_ _ | refine blk_drew ?_ | refine blk_alloc ?_ _)); exact BK189.out) hkp (fun hs_ => (fun e_ => (Kd.R_ne HO195.out BK189.out (by decide)) e_) hs_))
   have n1_ := Aside0.mk (Kd.R_mono (ok' := fun k_ => some k_ ≠ (.slice Ao14 y190.length co14 : Value).ownBlock) (Kd.R_keptB ((Kd.R_apart' HO201.out (Kd.R_typed HO195.out) (by decide))) hkp (fun k_ hk_ hs_ => (hk_.2) hs_)) (fun k_ hk_ => hk_.1.1))
   have n2_ := Aside0.mk (Kd.R_mono (ok' := fun k_ => some k_ ≠ (v200 : Value).ownBlock) (Kd.R_keptB ((Kd.R_apart' HO192.out (Kd.R_typed HO195.out) (by decide))) hkp (fun k_ hk_ hs_ => (hk_.2) hs_)) (fun k_ hk_ => hk_.1.1))
   have n3_ := Aside0.mk (Kd.R_mono (ok' := fun k_ => True) ho0 (fun k_ hk_ => trivial))
   have n4_ := Aside0.mk (hb)
   clear BK189
   clear HO201
   clear HO192
   clear HB
   clear HO195
   have BK189 := n0_
   have HO201 := n1_
   have HO192 := n2_
   have HO198 := n3_
   have HB := n4_
   clear n0_ n1_ n2_ n3_ n4_
   (try clear hb)
   (try clear hkp)
   (try clear ho0)
   refine hK.out _ _ ⟨(blk_cell BK189.out 0).trans rfl, (blk_cell BK189.out 1).trans rfl, (blk_cell BK189.out 2).trans rfl, (blk_cell BK189.out 3).trans rfl, (blk_cell BK189.out 4).trans rfl⟩ (fun hHeld => ?_)
   clear hK K
   refine norm_ (a' := ?_) ?_ ?_
   rotate_left
   ·show Act.put _ (some 13) _ = _
    simp only [Act.put, List.setIfInBounds_toArray, List.set_cons_zero, List.set_cons_succ, i64_w, i32_w]
    rfl
   exact norm_ (by simp only [putAll, Act.put, List.setIfInBounds_toArray, List.set_cons_zero, List.set_cons_succ]) (hCont (.slice Ao14 y190.length co14, .slice Ao16 t193.length co16, v197, v200) _ ⟨hHeld, (by (with_reducible repeat (first | apply Kd.R_alloc | apply Kd.R_drewN | apply Kd.R_drew)); exact HO192.out), (by (with_reducible repeat (first | apply Kd.R_alloc | apply Kd.R_drewN | apply Kd.R_drew)); exact HO198.out), (by (with_reducible repeat (first | apply Kd.R_alloc | apply Kd.R_drewN | apply Kd.R_drew)); exact HO201.out), (by (with_reducible repeat (first | refine blk_drewN ?_ _ | refine blk_drew ?_ | refine blk_alloc ?_ _)); exact BK189.out), (by repeat (first | (with_reducible first | exact HB.out | apply below_alloc | apply pw_below_drewN | apply below_drew1 | refine below_set ?_ GE189.out) | exact HB.out))⟩)
 rintro ⟨v191, v194, v197, v200⟩ w18 ⟨hS_, h0_, h1_, h2_, h3_, h4_⟩
 have n0_ : Aside0 (Kd.R (Kd.int .i64) 3 w18 w.heap.size (fun k_ => some k_ ≠ (v200 : Value).ownBlock) v191 y190) := ⟨h0_⟩
 have n1_ : Aside0 (Kd.R (Kd.int .u8) 5 w18 w.heap.size (fun _ => True) v197 t196) := ⟨h1_⟩
 have n2_ : Aside0 (Kd.R (Kd.int .i64) 3 w18 w.heap.size (fun k_ => some k_ ≠ (v191 : Value).ownBlock) v200 y199) := ⟨h2_⟩
 have n3_ : Aside0 (w18.heap[gb189]? = some (.cells #[.int .i64 a0_0, .int .i64 a0_1, .string a0_2, .int .i64 a0_3, .slice A0_4 l0_4.length c0_4] 27 (0, 0))) := ⟨h3_⟩
 have n4_ : Aside0 (Below w.heap.size w w18) := ⟨h4_⟩
 clear BK189
 clear HB
 clear h0_ h1_ h2_ h3_ h4_
 have HO192 := n0_
 have HO198 := n1_
 have HO201 := n2_
 have BK189 := n3_
 have HB := n4_
 clear n0_ n1_ n2_ n3_ n4_
 have hHeld : w18.cell? ⟨gb189, 0, none⟩ = some (.int .i64 a0_0) ∧ w18.cell? ⟨gb189, 1, none⟩ = some (.int .i64 a0_1) ∧ w18.cell? ⟨gb189, 2, none⟩ = some (.string a0_2) ∧ w18.cell? ⟨gb189, 3, none⟩ = some (.int .i64 a0_3) ∧ w18.cell? ⟨gb189, 4, none⟩ = some (.slice A0_4 l0_4.length c0_4) := hS_
 obtain ⟨Ao19, co19, eo19⟩ := Kd.R_slice HO198.out
 (first | subst eo19 | (injection eo19 with f1_ f2_ f3_; have f4_ := f1_.symm; have f5_ := f3_.symm; clear f1_ f2_ f3_; subst f4_; subst f5_))
 obtain ⟨Ao20, co20, eo20⟩ := Kd.R_slice HO201.out
 (first | subst eo20 | (injection eo20 with f1_ f2_ f3_; have f4_ := f1_.symm; have f5_ := f3_.symm; clear f1_ f2_ f3_; subst f4_; subst f5_))
 refine norm_ (a' := ?_) ?_ ?_
 rotate_left
 ·simp only [putAll, Act.put, List.setIfInBounds_toArray, List.set_cons_zero, List.set_cons_succ]
  rfl
 refine one_ (i := 12) (N := some 17) #[ZT,ZT,ZT,ZT,ZT,ZT,ZT,ZT,ZT,ZT,ZT,ZT,ZT,ZF] rfl rfl (one_of HT_.out (by kernel_rfl)) (by decide) (fun K hK => ?_)
 refine goes_ Try.func39 (by kernel_rfl) rfl #[.slice Ao19 t196.length co19, .slice Ao20 y199.length co20] (by rfl) rfl rfl (by (try simp only [List.map_toArray, List.map_cons, List.map_nil]); first | done | rfl | (simp only [List.length_drop, List.length_take]; rfl)) ?_
 with_reducible refine (codec_number.calls k (fun k_ => some k_ = (.slice Ao19 t196.length co19 : Value).ownBlock) (.slice Ao19 t196.length co19) t196 _ _ y199 t202 w _ ?side1 ?side2 ?side3 ?side4 A4.out).mono ?_
 (case side1 => repeat (first | (with_reducible first | exact HB.out | apply below_alloc | apply pw_below_drewN | apply below_drew1 | refine below_set ?_ GE189.out) | exact HB.out))
 (case side2 => exact Kd.R_tight rfl HO198.out)
 (case side3 => exact Kd.C_kept_own ((Kd.R_apart' HO201.out (Kd.R_typed HO198.out) (by decide))) (fun k_ hk_ hs_ => (hk_.2) hs_))
 (case side4 => exact (Kd.R_reads' HO201.out).2.1)
 rintro e w21 ⟨v203, rfl, ho0, hb, hkp⟩
 refine ⟨_, rfl, ?_⟩
 have n0_ := Aside0.mk (blk_kept (by (with_reducible repeat (first | refine blk_drewN ?_ _ | refine blk_drew ?_ | refine blk_alloc ?_ _)); exact BK189.out) hkp (fun hs_ => (fun e_ => (Kd.R_ne HO198.out BK189.out (by decide)) e_) hs_))
 have n1_ := Aside0.mk (Kd.R_mono (ok' := fun k_ => some k_ ≠ (.slice Ao20 y199.length co20 : Value).ownBlock) (Kd.R_keptB ((Kd.R_apart' HO192.out (Kd.R_typed HO198.out) (by decide))) hkp (fun k_ hk_ hs_ => (hk_.2) hs_)) (fun k_ hk_ => hk_.1.1))
 have n2_ := Aside0.mk (Kd.R_mono (ok' := fun k_ => some k_ ≠ (v191 : Value).ownBlock) (Kd.R_keptB ((Kd.R_apart' HO201.out (Kd.R_typed HO198.out) (by decide))) hkp (fun k_ hk_ hs_ => (hk_.2) hs_)) (fun k_ hk_ => hk_.1.1))
 have n3_ := Aside0.mk (Kd.R_mono (ok' := fun k_ => True) ho0 (fun k_ hk_ => trivial))
 have n4_ := Aside0.mk (hb)
 clear BK189
 clear HO192
 clear HO201
 clear HB
 clear HO198
 have BK189 := n0_
 have HO192 := n1_
 have HO201 := n2_
 have HO204 := n3_
 have HB := n4_
 clear n0_ n1_ n2_ n3_ n4_
 (try clear hb)
 (try clear hkp)
 (try clear ho0)
 refine hK.out _ _ ⟨(blk_cell BK189.out 0).trans rfl, (blk_cell BK189.out 1).trans rfl, (blk_cell BK189.out 2).trans rfl, (blk_cell BK189.out 3).trans rfl, (blk_cell BK189.out 4).trans rfl⟩ (fun hHeld => ?_)
 clear hK K
 refine norm_ (a' := ?_) ?_ ?_
 rotate_left
 ·show Act.put _ (some 17) _ = _
  simp only [Act.put, List.setIfInBounds_toArray, List.set_cons_zero, List.set_cons_succ, i64_w, i32_w]
  rfl
 refine pure_ (i := 13) (N := some 4) (v := ?_) (a' := ?_) #[ZT,ZT,ZT,ZT,ZT,ZT,ZT,ZT,ZT,ZT,ZT,ZT,ZT,ZT] rfl rfl (any_of HT_.out (by kernel_rfl)) (fun _ _ _ h => h) (Or.inl ⟨by rfl, ?_⟩) ?_ ?_
 rotate_left
 ·intro w'
  go_simp
  with_reducible rfl
 rotate_left
 ·simp only [Act.put, List.setIfInBounds_toArray, List.set_cons_zero, List.set_cons_succ, i64_w, i32_w]
  rfl
 refine done_ (done_of HT_.out (by kernel_rfl)) ?_
 try go_wp2
 have n0_ := Aside0.mk (Kd.R_drew HO192.out)
 have n1_ := Aside0.mk (Kd.R_drew HO201.out)
 have n2_ := Aside0.mk (Kd.R_drew HO204.out)
 have n3_ := Aside0.mk (blk_drew BK189.out)
 have n4_ := Aside0.mk (below_drew1 HB.out)
 clear HO192
 clear HO201
 clear HO204
 clear BK189
 clear HB
 have HO192 := n0_
 have HO201 := n1_
 have HO204 := n2_
 have BK189 := n3_
 have HB := n4_
 clear n0_ n1_ n2_ n3_ n4_
 refine start_ (n := 11) (S := fun w' => w'.cell? ⟨gb189, 0, none⟩ = some (.int .i64 a0_0) ∧ w'.cell? ⟨gb189, 1, none⟩ = some (.int .i64 a0_1) ∧ w'.cell? ⟨gb189, 2, none⟩ = some (.string a0_2) ∧ w'.cell? ⟨gb189, 3, none⟩ = some (.int .i64 a0_3) ∧ w'.cell? ⟨gb189, 4, none⟩ = some (.slice A0_4 l0_4.length c0_4)) (ds := []) #[ZF,ZF,ZF,ZF,ZF,ZF,ZF,ZF,ZF,ZF,ZF] (by kernel_rfl) rfl rfl ⟨(blk_cell BK189.out 0).trans rfl, (blk_cell BK189.out 1).trans rfl, (blk_cell BK189.out 2).trans rfl, (blk_cell BK189.out 3).trans rfl, (blk_cell BK189.out 4).trans rfl⟩ (fun hHeld => ?_); refine with_tabW codec_PutRecord.tab2 codec_PutRecord.bits2 (fun HT_ HW_ => ?_)
 generalize w21.drew = w22 at HO192 HO201 HO204 BK189 HB hHeld ⊢
 refine pure_ (i := 2) (N := some 20) (v := ?_) (a' := ?_) #[ZF,ZF,ZT,ZF,ZF,ZF,ZF,ZF,ZF,ZF,ZF] rfl rfl (any_of HT_.out (by kernel_rfl)) (fun _ _ _ h => h) (Or.inl ⟨by rfl, ?_⟩) ?_ ?_
 rotate_left
 ·intro w'
  go_simp
  with_reducible rfl
 rotate_left
 ·simp only [Act.put, List.setIfInBounds_toArray, List.set_cons_zero, List.set_cons_succ, i64_w, i32_w]
  rfl
 refine pure_ (i := 3) (N := some 21) (v := ?_) (a' := ?_) #[ZF,ZF,ZT,ZT,ZF,ZF,ZF,ZF,ZF,ZF,ZF] rfl rfl (any_of HT_.out (by kernel_rfl)) (fun _ _ _ h => h) (Or.inl ⟨by rfl, ?_⟩) ?_ ?_
 rotate_left
 ·intro w'
  go_simp
  with_reducible rfl
 rotate_left
 ·simp only [Act.put, List.setIfInBounds_toArray, List.set_cons_zero, List.set_cons_succ, i64_w, i32_w]
  rfl
 refine take_ (i := 0) (N := some 18) (v := ?_) (a' := ?_) #[ZT,ZF,ZT,ZT,ZF,ZF,ZF,ZF,ZF,ZF,ZF] rfl rfl (take_ofW HT_.out HW_.out (by kernel_rfl)) (fun _ _ _ h => h) (Or.inl ⟨by rfl, ?_⟩) hHeld ?_ ?_
 rotate_left
 ·rintro w' ⟨s0, s1, s2, s3, s4⟩
  go_simp
  with_reducible rfl
 rotate_left
 ·simp only [Act.put, List.setIfInBounds_toArray, List.set_cons_zero, List.set_cons_succ, i64_w, i32_w]
  rfl
 refine take_ (i := 4) (N := some 22) (v := ?_) (a' := ?_) #[ZT,ZF,ZT,ZT,ZT,ZF,ZF,ZF,ZF,ZF,ZF] rfl rfl (take_ofW HT_.out HW_.out (by kernel_rfl)) (fun _ _ _ h => h) (Or.inl ⟨by rfl, ?_⟩) hHeld ?_ ?_
 rotate_left
 ·rintro w' ⟨s0, s1, s2, s3, s4⟩
  go_simp
  with_reducible rfl
 rotate_left
 ·simp only [Act.put, List.setIfInBounds_toArray, List.set_cons_zero, List.set_cons_succ, i64_w, i32_w]
  rfl
 refine one_ (i := 1) (N := some 19) #[ZT,ZT,ZT,ZT,ZT,ZF,ZF,ZF,ZF,ZF,ZF] rfl rfl (one_of HT_.out (by kernel_rfl)) (by decide) (fun K hK => ?_)
 refine goes_ Try.func43 (by kernel_rfl) rfl #[.agg #[.int .i64 a0_0, .int .i64 a0_1, .string a0_2, .int .i64 a0_3, .slice A0_4 l0_4.length c0_4]] (by rfl) rfl rfl (by (try simp only [List.map_toArray, List.map_cons, List.map_nil]); first | done | rfl | (simp only [List.length_drop, List.length_take]; rfl)) ?_
 with_reducible refine (codec_record.calls k a0_0 a0_1 a0_2 a0_3 _ _ l0_4 t205 _ ?side1 ?side2 A5.out).mono ?_
 (case side1 => repeat (first | exact (Kd.C_below HR0_4.out HB.out) | (with_reducible refine Kd.C_alloc ?_ _) | (with_reducible refine Kd.C_drewN ?_ _) | (with_reducible refine Kd.C_drew ?_)))
 (case side2 => exact HC0_4.out)
 rintro e w23 ⟨rfl, hb⟩
 refine ⟨_, rfl, ?_⟩
 have n0_ := Aside0.mk (Kd.R_below (by (with_reducible repeat (first | apply Kd.R_alloc | apply Kd.R_drewN | apply Kd.R_drew)); exact HO192.out) hb)
 have n1_ := Aside0.mk (Kd.R_below (by (with_reducible repeat (first | apply Kd.R_alloc | apply Kd.R_drewN | apply Kd.R_drew)); exact HO201.out) hb)
 have n2_ := Aside0.mk (Kd.R_below (by (with_reducible repeat (first | apply Kd.R_alloc | apply Kd.R_drewN | apply Kd.R_drew)); exact HO204.out) hb)
 have n3_ := Aside0.mk (blk_below (g := gb189) (o := .cells #[.int .i64 a0_0, .int .i64 a0_1, .string a0_2, .int .i64 a0_3, .slice A0_4 l0_4.length c0_4] 27 (0, 0)) (by (with_reducible repeat (first | refine blk_drewN ?_ _ | refine blk_drew ?_ | refine blk_alloc ?_ _)); exact BK189.out) hb)
 have n4_ := Aside0.mk (below_step (by repeat (first | (with_reducible first | exact HB.out | apply below_alloc | apply pw_below_drewN | apply below_drew1 | refine below_set ?_ GE189.out) | exact HB.out)) hb)
 clear HO192
 clear HO201
 clear HO204
 clear BK189
 clear HB
 have HO192 := n0_
 have HO201 := n1_
 have HO204 := n2_
 have BK189 := n3_
 have HB := n4_
 clear n0_ n1_ n2_ n3_ n4_
 (try clear hb)
 (try clear hb2)
 (try clear hk)
 (try clear hi)
 obtain ⟨Ao24, co24, eo24⟩ := Kd.R_slice HO204.out
 (first | subst eo24 | (injection eo24 with f1_ f2_ f3_; have f4_ := f1_.symm; have f5_ := f3_.symm; clear f1_ f2_ f3_; subst f4_; subst f5_))
 refine hK.out _ _ ⟨(blk_cell BK189.out 0).trans rfl, (blk_cell BK189.out 1).trans rfl, (blk_cell BK189.out 2).trans rfl, (blk_cell BK189.out 3).trans rfl, (blk_cell BK189.out 4).trans rfl⟩ (fun hHeld => ?_)
 clear hK K
 refine norm_ (a' := ?_) ?_ ?_
 rotate_left
 ·show Act.put _ (some 19) _ = _
  simp only [Act.put, List.setIfInBounds_toArray, List.set_cons_zero, List.set_cons_succ, i64_w, i32_w]
  rfl
 refine one_ (i := 5) (N := some 23) #[ZT,ZT,ZT,ZT,ZT,ZT,ZF,ZF,ZF,ZF,ZF] rfl rfl (one_of HT_.out (by kernel_rfl)) (by decide) (fun K hK => ?_)
 refine goes_ Try.func44 (by kernel_rfl) rfl #[.slice Ao24 t202.length co24, .slice A0_4 l0_4.length c0_4, .func (Fn.func 45) #[] #[]] (by rfl) rfl rfl (by (try simp only [List.map_toArray, List.map_cons, List.map_nil]); first | done | rfl | (simp only [List.length_drop, List.length_take]; rfl)) ?_
 with_reducible refine (api_Event__by_codec_putEvent.calls k (fun k_ => some k_ = (.slice Ao24 t202.length co24 : Value).ownBlock) (.slice Ao24 t202.length co24) t202 _ _ l0_4 t206 w _ ?side1 ?side2 ?side3 ?side4 A6.out).mono ?_
 (case side1 => repeat (first | (with_reducible first | exact HB.out | apply below_alloc | apply pw_below_drewN | apply below_drew1 | refine below_set ?_ GE189.out) | exact HB.out))
 (case side2 => exact Kd.R_tight rfl HO204.out)
 (case side3 => exact Kd.C_kept_came k81_heap HR0_4.out (by repeat (first | (with_reducible first | exact HB.out | apply below_alloc | apply pw_below_drewN | apply below_drew1 | refine below_set ?_ GE189.out) | exact HB.out)) (fun k_ hs_ => (fun e_ => Kd.R_base HO204.out k_ e_.symm) hs_))
 (case side4 => exact HC0_4.out)
 rintro e w25 ⟨v207, rfl, ho0, hb, hkp⟩
 refine ⟨_, rfl, ?_⟩
 have n0_ := Aside0.mk (blk_kept (by (with_reducible repeat (first | refine blk_drewN ?_ _ | refine blk_drew ?_ | refine blk_alloc ?_ _)); exact BK189.out) hkp (fun hs_ => (fun e_ => (Kd.R_ne HO204.out BK189.out (by decide)) e_) hs_))
 have n1_ := Aside0.mk (Kd.R_mono (ok' := fun k_ => some k_ ≠ (.slice Ao20 y199.length co20 : Value).ownBlock) (Kd.R_keptB ((Kd.R_apart' HO192.out (Kd.R_typed HO204.out) (by decide))) hkp (fun k_ hk_ hs_ => (hk_.2) hs_)) (fun k_ hk_ => hk_.1.1))
 have n2_ := Aside0.mk (Kd.R_mono (ok' := fun k_ => some k_ ≠ (v191 : Value).ownBlock) (Kd.R_keptB ((Kd.R_apart' HO201.out (Kd.R_typed HO204.out) (by decide))) hkp (fun k_ hk_ hs_ => (hk_.2) hs_)) (fun k_ hk_ => hk_.1.1))
 have n3_ := Aside0.mk (Kd.R_mono (ok' := fun k_ => True) ho0 (fun k_ hk_ => trivial))
 have n4_ := Aside0.mk (hb)
 clear BK189
 clear HO192
 clear HO201
 clear HB
 clear HO204
 have BK189 := n0_
 have HO192 := n1_
 have HO201 := n2_
 have HO208 := n3_
 have HB := n4_
 clear n0_ n1_ n2_ n3_ n4_
 (try clear hb)
 (try clear hkp)
 (try clear ho0)
 obtain ⟨Ao26, co26, eo26⟩ := Kd.R_slice HO208.out
 (first | subst eo26 | (injection eo26 with f1_ f2_ f3_; have f4_ := f1_.symm; have f5_ := f3_.symm; clear f1_ f2_ f3_; subst f4_; subst f5_))
 refine hK.out _ _ ⟨(blk_cell BK189.out 0).trans rfl, (blk_cell BK189.out 1).trans rfl, (blk_cell BK189.out 2).trans rfl, (blk_cell BK189.out 3).trans rfl, (blk_cell BK189.out 4).trans rfl⟩ (fun hHeld => ?_)
 clear hK K
 refine norm_ (a' := ?_) ?_ ?_
 rotate_left
 ·show Act.put _ (some 23) _ = _
  simp only [Act.put, List.setIfInBounds_toArray, List.set_cons_zero, List.set_cons_succ, i64_w, i32_w]
  rfl
 refine one_ (i := 6) (N := some 24) #[ZT,ZT,ZT,ZT,ZT,ZT,ZT,ZF,ZF,ZF,ZF] rfl rfl (one_of HT_.out (by kernel_rfl)) (by decide) (fun K hK => ?_)
 refine goes_ Try.func41 (by kernel_rfl) rfl #[.bool t205, .slice Ao26 t206.length co26] (by rfl) rfl rfl (by (try simp only [List.map_toArray, List.map_cons, List.map_nil]); first | done | rfl | (simp only [List.length_drop, List.length_take]; rfl)) ?_
 with_reducible refine (codec_laid.calls t205 _ _ t206 t209 t210 _ ?side1 ?side2 A7.out).mono ?_
 (case side1 => repeat (first | exact (Kd.R_reads' HO208.out).2.2 | (with_reducible refine Kd.C_alloc ?_ _) | (with_reducible refine Kd.C_drewN ?_ _) | (with_reducible refine Kd.C_drew ?_)))
 (case side2 => exact (Kd.R_reads' HO208.out).2.1)
 rintro e w' ⟨rfl, ⟨nd, rfl⟩⟩
 refine ⟨_, rfl, ?_⟩
 refine hK.out _ _ ⟨(blk_cell BK189.out 0).trans rfl, (blk_cell BK189.out 1).trans rfl, (blk_cell BK189.out 2).trans rfl, (blk_cell BK189.out 3).trans rfl, (blk_cell BK189.out 4).trans rfl⟩ (fun hHeld => ?_)
 clear hK K
 refine norm_ (a' := ?_) ?_ ?_
 rotate_left
 ·show Act.put _ (some 24) _ = _
  simp only [Act.put, List.setIfInBounds_toArray, List.set_cons_zero, List.set_cons_succ, i64_w, i32_w]
  rfl
 refine pure_ (i := 7) (N := some 25) (v := ?_) (a' := ?_) #[ZT,ZT,ZT,ZT,ZT,ZT,ZT,ZT,ZF,ZF,ZF] rfl rfl (any_of HT_.out (by kernel_rfl)) (fun _ _ _ h => h) (Or.inl ⟨by rfl, ?_⟩) ?_ ?_
 rotate_left
 ·intro w'
  go_simp
  with_reducible rfl
 rotate_left
 ·simp only [Act.put, List.setIfInBounds_toArray, List.set_cons_zero, List.set_cons_succ, i64_w, i32_w]
  rfl
 refine pure_ (i := 8) (N := some 26) (v := ?_) (a' := ?_) #[ZT,ZT,ZT,ZT,ZT,ZT,ZT,ZT,ZT,ZF,ZF] rfl rfl (any_of HT_.out (by kernel_rfl)) (fun _ _ _ h => h) (Or.inl ⟨by rfl, ?_⟩) ?_ ?_
 rotate_left
 ·intro w'
  go_simp
  with_reducible rfl
 rotate_left
 ·simp only [Act.put, List.setIfInBounds_toArray, List.set_cons_zero, List.set_cons_succ, i64_w, i32_w]
  rfl
 refine pure_ (i := 9) (N := some 2) (v := ?_) (a' := ?_) #[ZT,ZT,ZT,ZT,ZT,ZT,ZT,ZT,ZT,ZT,ZF] rfl rfl (any_of HT_.out (by kernel_rfl)) (fun _ _ _ h => h) (Or.inl ⟨by rfl, ?_⟩) ?_ ?_
 rotate_left
 ·intro w'
  go_simp
  with_reducible rfl
 rotate_left
 ·simp only [Act.put, List.setIfInBounds_toArray, List.set_cons_zero, List.set_cons_succ, i64_w, i32_w]
  rfl
 refine pure_ (i := 10) (N := some 3) (v := ?_) (a' := ?_) #[ZT,ZT,ZT,ZT,ZT,ZT,ZT,ZT,ZT,ZT,ZT] rfl rfl (any_of HT_.out (by kernel_rfl)) (fun _ _ _ h => h) (Or.inl ⟨by rfl, ?_⟩) ?_ ?_
 rotate_left
 ·intro w'
  go_simp
  with_reducible rfl
 rotate_left
 ·simp only [Act.put, List.setIfInBounds_toArray, List.set_cons_zero, List.set_cons_succ, i64_w, i32_w]
  rfl
 refine done_ (done_of HT_.out (by kernel_rfl)) ?_
 try go_wp2
 go_ret2
 exact ⟨by first | rfl | (simp [errW_none, errW_some] <;> rfl) | (simp [*, errW_none, errW_some] <;> rfl), by repeat (first | (with_reducible first | exact HB.out | apply below_alloc | apply pw_below_drewN | apply below_drew1 | refine below_set ?_ GE189.out) | exact HB.out)⟩
mutual
def surmiselaw10_CodecOnce.j0 : Nat → ByteArray → Int → Bool → Option (Bool)
 | 0, _, _, _ => none
 | k + 1, x0, x1, x36 => if x36 = true then ((surmiselaw10_awake.f k).bind fun t572 => (some t572)) else ((codec_ReadCmd.f k x0 x1).bind fun bt573 => (if bt573.2.2.2.2.2.2.2 = 0 then ((codec_PutCmd.f k bt573.1 bt573.2.1 bt573.2.2.1 bt573.2.2.2.1 bt573.2.2.2.2.1 bt573.2.2.2.2.2.1).bind fun bt584 => (if bt584.2 = 0 then (if 0 ≤ x1 then (if x1 ≤ bt573.2.2.2.2.2.2.1 then (if bt573.2.2.2.2.2.2.1 ≤ (x0.size : Int) then (if bt584.1.toList = (x0.extract (x1 : Int).toNat (bt573.2.2.2.2.2.2.1 : Int).toNat).toList then (surmiselaw10_CodecOnce.j1 k x0 x1) else (some false)) else (none)) else (none)) else (none)) else (some false))) else (surmiselaw10_CodecOnce.j1 k x0 x1)))
def surmiselaw10_CodecOnce.j1 : Nat → ByteArray → Int → Option (Bool)
 | 0, _, _ => none
 | k + 1, x0, x1 => (codec_ReadRecord.f k x0 x1).bind fun bt586 => (if bt586.2.2.2.2.2.2 = 0 then ((codec_PutRecord.f k bt586.1 bt586.2.1 bt586.2.2.1 bt586.2.2.2.1 bt586.2.2.2.2.1).bind fun bt596 => (if bt596.2 = 0 then (if 0 ≤ x1 then (if x1 ≤ bt586.2.2.2.2.2.1 then (if bt586.2.2.2.2.2.1 ≤ (x0.size : Int) then (if bt596.1.toList = (x0.extract (x1 : Int).toNat (bt586.2.2.2.2.2.1 : Int).toNat).toList then (surmiselaw10_CodecOnce.j2 k x0 x1) else (some false)) else (none)) else (none)) else (none)) else (some false))) else (surmiselaw10_CodecOnce.j2 k x0 x1))
def surmiselaw10_CodecOnce.j2 : Nat → ByteArray → Int → Option (Bool)
 | 0, _, _ => none
 | k + 1, x0, x1 => (codec_ReadItems.f k x0 x1).bind fun bt598 => (if bt598.2.2 = 0 then ((codec_PutItems.f k bt598.1).bind fun bt603 => (if bt603.2 = 0 then (if 0 ≤ x1 then (if x1 ≤ bt598.2.1 then (if bt598.2.1 ≤ (x0.size : Int) then (if bt603.1.toList = (x0.extract (x1 : Int).toNat (bt598.2.1 : Int).toNat).toList then (surmiselaw10_CodecOnce.j3 k x0 x1) else (some false)) else (none)) else (none)) else (none)) else (some false))) else (surmiselaw10_CodecOnce.j3 k x0 x1))
def surmiselaw10_CodecOnce.j3 : Nat → ByteArray → Int → Option (Bool)
 | 0, _, _ => none
 | k + 1, x0, x1 => (codec_ReadVerdicts.f k x0 x1).bind fun bt605 => (if bt605.2.2 = 0 then ((codec_PutVerdicts.f k bt605.1).bind fun bt610 => (if bt610.2 = 0 then (if 0 ≤ x1 then (if x1 ≤ bt605.2.1 then (if bt605.2.1 ≤ (x0.size : Int) then (some (bt610.1.toList == (x0.extract (x1 : Int).toNat (bt605.2.1 : Int).toNat).toList)) else (none)) else (none)) else (none)) else (some false))) else (if bt605.2.1 = 0 then (some ((bt605.1.length : Int) == 0)) else (some false)))
end
def surmiselaw10_CodecOnce.f (k : Nat) (a0 : ByteArray) (a1 : Int) : Option (Bool) := (surmiselaw10_awake.f k).bind fun t571 => (if t571 = true then (if a1 < 0 then (surmiselaw10_CodecOnce.j0 k a0 a1 true) else (surmiselaw10_CodecOnce.j0 k a0 a1 (decide (a1 > (a0.size : Int))))) else (surmiselaw10_CodecOnce.j0 k a0 a1 true))
theorem surmiselaw10_CodecOnce.calls (k : Nat) (a0 : ByteArray) (a1 : Int) (r : Bool) (w : World) (h : surmiselaw10_CodecOnce.f k a0 a1 = some r) :
  Calls Try.prog 5 #[.string a0, .int .i64 a1] w fun e w' => e = .returned (.bool r) ∧ Below w.heap.size w w' := by
 have hu24 := Try.underlying24
 have hu27 := Try.underlying27
 have HB := Aside0.mk (Below.refl w.heap.size w)
 have H : ((surmiselaw10_awake.f k).bind fun t571 => (if t571 = true then (if a1 < 0 then (surmiselaw10_CodecOnce.j0 k a0 a1 true) else (surmiselaw10_CodecOnce.j0 k a0 a1 (decide (a1 > (a0.size : Int))))) else (surmiselaw10_CodecOnce.j0 k a0 a1 true))) = some r := h
 clear h
 have HC3 := Aside0.mk H
 clear H
 go_enter Try.func5, Try.ntmps5
 go_upto_region 1 with (fail)
 go_cut [36] (fun v36 wc => ∃ (kq : Nat) (x36_2 : Bool), v36 = .bool x36_2 ∧ Aside0 (surmiselaw10_CodecOnce.j0 kq a0 a1 x36_2 = some r) ∧ Aside0 (kq ≤ k) ∧ Aside0 (Below w.heap.size w wc))
 case first =>
  have H := HC3.out
  clear HC3
  replace H := Option.bind_eq_some_iff.mp H
  obtain ⟨t571, A40, H⟩ := H
  replace H : (if t571 = true then (if a1 < 0 then (surmiselaw10_CodecOnce.j0 k a0 a1 true) else (surmiselaw10_CodecOnce.j0 k a0 a1 (decide (a1 > (a0.size : Int))))) else (surmiselaw10_CodecOnce.j0 k a0 a1 true)) = some r := H
  have A4 := Aside0.mk A40
  clear A40
  by_cases c5 : t571 = true
  ·subst c5
   have H1 : (if a1 < 0 then (surmiselaw10_CodecOnce.j0 k a0 a1 true) else (surmiselaw10_CodecOnce.j0 k a0 a1 (decide (a1 > (a0.size : Int))))) = some r := by rw [if_pos rfl] at H; exact H
   clear H
   have H := H1
   clear H1
   by_cases c6 : a1 < 0
   ·rw [if_pos c6] at H
    have c6b0 : decide (a1 < 0) = true := decide_eq_true c6
    clear c6
    (first | rw [c6b0] | (simp only [i64_w, i32_w]; rw [c6b0]) | skip)
    have H' := Aside0.mk H
    clear H
    go_wp2_with (first | ((with_reducible refine gate_callee (f := 11) rfl ?_); refine goesL_ (some 25) rfl rfl Try.func11 (by kernel_rfl) rfl #[] rfl (by (try simp only [List.map_toArray, List.map_cons, List.map_nil]); first | done | rfl | (simp only [List.length_drop, List.length_take]; rfl)) ?_; (with_reducible refine (surmiselaw10_awake.calls k  true _ A4.out).mono ?_); rintro e w7 ⟨rfl, hb⟩; refine ⟨_, rfl, ?_⟩; have n0_ := Aside0.mk (below_step (by repeat (first | (with_reducible first | exact HB.out | apply below_alloc | apply pw_below_drewN | apply below_drew1) | exact HB.out)) hb); clear HB; have HB := n0_; clear n0_; (try clear hb); (try clear hb2); (try clear hk); (try clear hi)))
    go_meet
    case rel => exact ⟨_, (true), (by first | rfl | (simp; done) | (simp [*]; done)), H', ⟨by first | omega | exact Nat.le_refl _⟩, ⟨by repeat (first | (with_reducible first | exact HB.out | apply below_alloc | apply pw_below_drewN | apply below_drew1) | exact HB.out)⟩⟩
   ·rw [if_neg c6] at H
    have c6b0 : decide (a1 < 0) = false := decide_eq_false c6
    clear c6
    (first | rw [c6b0] | (simp only [i64_w, i32_w]; rw [c6b0]) | skip)
    have H' := Aside0.mk H
    clear H
    go_wp2_with (first | ((with_reducible refine gate_callee (f := 11) rfl ?_); refine goesL_ (some 25) rfl rfl Try.func11 (by kernel_rfl) rfl #[] rfl (by (try simp only [List.map_toArray, List.map_cons, List.map_nil]); first | done | rfl | (simp only [List.length_drop, List.length_take]; rfl)) ?_; (with_reducible refine (surmiselaw10_awake.calls k  true _ A4.out).mono ?_); rintro e w8 ⟨rfl, hb⟩; refine ⟨_, rfl, ?_⟩; have n0_ := Aside0.mk (below_step (by repeat (first | (with_reducible first | exact HB.out | apply below_alloc | apply pw_below_drewN | apply below_drew1) | exact HB.out)) hb); clear HB; have HB := n0_; clear n0_; (try clear hb); (try clear hb2); (try clear hk); (try clear hi)))
    go_meet
    case rel => exact ⟨_, (decide (a1 > (a0.size : Int))), (by first | rfl | (simp; done) | (simp [*]; done)), H', ⟨by first | omega | exact Nat.le_refl _⟩, ⟨by repeat (first | (with_reducible first | exact HB.out | apply below_alloc | apply pw_below_drewN | apply below_drew1) | exact HB.out)⟩⟩
  ·replace c5 := Bool.eq_false_iff.mpr c5
   subst c5
   have H1 : (surmiselaw10_CodecOnce.j0 k a0 a1 true) = some r := by rw [if_neg (show ¬ (false = true) by decide)] at H; exact H
   clear H
   have H := H1
   clear H1
   have H' := Aside0.mk H
   clear H
   go_wp2_with (first | ((with_reducible refine gate_callee (f := 11) rfl ?_); refine goesL_ (some 25) rfl rfl Try.func11 (by kernel_rfl) rfl #[] rfl (by (try simp only [List.map_toArray, List.map_cons, List.map_nil]); first | done | rfl | (simp only [List.length_drop, List.length_take]; rfl)) ?_; (with_reducible refine (surmiselaw10_awake.calls k  false _ A4.out).mono ?_); rintro e w9 ⟨rfl, hb⟩; refine ⟨_, rfl, ?_⟩; have n0_ := Aside0.mk (below_step (by repeat (first | (with_reducible first | exact HB.out | apply below_alloc | apply pw_below_drewN | apply below_drew1) | exact HB.out)) hb); clear HB; have HB := n0_; clear n0_; (try clear hb); (try clear hb2); (try clear hk); (try clear hi)))
   go_meet
   case rel => exact ⟨_, (true), (by first | rfl | (simp; done) | (simp [*]; done)), H', ⟨by first | omega | exact Nat.le_refl _⟩, ⟨by repeat (first | (with_reducible first | exact HB.out | apply below_alloc | apply pw_below_drewN | apply below_drew1) | exact HB.out)⟩⟩
 case rest =>
  clear HC3
  try clear c1
  try clear p2
  try clear c5
  try clear c6
  try clear c6b0
  obtain ⟨kq, x36_2, rfl, HA, HJ2, HB⟩ := hcut
  cases kq with
  | zero => exact absurd HA.out (by simp [surmiselaw10_CodecOnce.j0])
  | succ kj2 =>
   have H := HA.out
   clear HA
   simp only [surmiselaw10_CodecOnce.j0] at H
   by_cases c10 : x36_2 = true
   ·subst c10
    have H1 : ((surmiselaw10_awake.f kj2).bind fun t572 => (some t572)) = some r := by rw [if_pos rfl] at H; exact H
    clear H
    have H := H1
    clear H1
    replace H := Option.bind_eq_some_iff.mp H
    obtain ⟨t572, A110, H⟩ := H
    replace H : (some t572) = some r := H
    have A11 := Aside0.mk A110
    clear A110
    obtain rfl := Option.some.inj H
    go_wp2_with (first | ((with_reducible refine gate_callee (f := 11) rfl ?_); refine goesL_ (some 37) rfl rfl Try.func11 (by kernel_rfl) rfl #[] rfl (by (try simp only [List.map_toArray, List.map_cons, List.map_nil]); first | done | rfl | (simp only [List.length_drop, List.length_take]; rfl)) ?_; (with_reducible refine (surmiselaw10_awake.calls kj2  t572 _ A11.out).mono ?_); rintro e w12 ⟨rfl, hb⟩; refine ⟨_, rfl, ?_⟩; have n0_ := Aside0.mk (below_step (by repeat (first | (with_reducible first | exact HB.out | apply below_alloc | apply pw_below_drewN | apply below_drew1) | exact HB.out)) hb); clear HB; have HB := n0_; clear n0_; (try clear hb); (try clear hb2); (try clear hk); (try clear hi)))
    go_ret
    exact ⟨by first | rfl | (simp [errW_none, errW_some] <;> rfl) | (simp [*, errW_none, errW_some] <;> rfl), by repeat (first | (with_reducible first | exact HB.out | apply below_alloc | apply pw_below_drewN | apply below_drew1) | exact HB.out)⟩
   ·replace c10 := Bool.eq_false_iff.mpr c10
    subst c10
    have H1 : ((codec_ReadCmd.f kj2 a0 a1).bind fun bt573 => (if bt573.2.2.2.2.2.2.2 = 0 then ((codec_PutCmd.f kj2 bt573.1 bt573.2.1 bt573.2.2.1 bt573.2.2.2.1 bt573.2.2.2.2.1 bt573.2.2.2.2.2.1).bind fun bt584 => (if bt584.2 = 0 then (if 0 ≤ a1 then (if a1 ≤ bt573.2.2.2.2.2.2.1 then (if bt573.2.2.2.2.2.2.1 ≤ (a0.size : Int) then (if bt584.1.toList = (a0.extract (a1 : Int).toNat (bt573.2.2.2.2.2.2.1 : Int).toNat).toList then (surmiselaw10_CodecOnce.j1 kj2 a0 a1) else (some false)) else (none)) else (none)) else (none)) else (some false))) else (surmiselaw10_CodecOnce.j1 kj2 a0 a1))) = some r := by rw [if_neg (show ¬ (false = true) by decide)] at H; exact H
    clear H
    have H := H1
    clear H1
    replace H := Option.bind_eq_some_iff.mp H
    obtain ⟨⟨t573, t574, t575, t576, t577, t580, t581, t582⟩, A130, H⟩ := H
    replace H : (if t582 = 0 then ((codec_PutCmd.f kj2 t573 t574 t575 t576 t577 t580).bind fun bt584 => (if bt584.2 = 0 then (if 0 ≤ a1 then (if a1 ≤ t581 then (if t581 ≤ (a0.size : Int) then (if bt584.1.toList = (a0.extract (a1 : Int).toNat (t581 : Int).toNat).toList then (surmiselaw10_CodecOnce.j1 kj2 a0 a1) else (some false)) else (none)) else (none)) else (none)) else (some false))) else (surmiselaw10_CodecOnce.j1 kj2 a0 a1)) = some r := H
    have A13 := Aside0.mk A130
    clear A130
    have HC14 := Aside0.mk H
    clear H
    go_upto_if 46 with (first | ((with_reducible refine gate_callee (f := 28) rfl ?_); refine goesL_ (some 41) rfl rfl Try.func28 (by kernel_rfl) rfl #[.string a0, .int .i64 a1] rfl (by (try simp only [List.map_toArray, List.map_cons, List.map_nil]); first | done | rfl | (simp only [List.length_drop, List.length_take]; rfl)) ?_; (with_reducible refine (codec_ReadCmd.calls kj2 a0 a1 t573 t574 t575 t576 t577 t580 t581 t582 _ A13.out).mono ?_); rintro e w15 ⟨v578, rfl, ho0, hb⟩; refine ⟨_, rfl, ?_⟩; have n0_ := Aside0.mk (Kd.R_lower ho0 (below_size (by repeat (first | (with_reducible first | exact HB.out | apply below_alloc | apply pw_below_drewN | apply below_drew1) | exact HB.out)))); have n1_ := Aside0.mk (below_step (by repeat (first | (with_reducible first | exact HB.out | apply below_alloc | apply pw_below_drewN | apply below_drew1) | exact HB.out)) hb); clear HB; have HO579 := n0_; have HB := n1_; clear n0_ n1_; (try clear hb); (try clear hb2); (try clear hk); (try clear hi); (try clear ho0)) | ((with_reducible refine gate_dst (N := 5) rfl ?_); (try (refine gate_guard (by rfl) ?_; dsimp only)); refine box_event ?hg (N := 5) ?hd (cs := #[.int .i64 0, .int .i64 0, .string (⟨#[]⟩ : ByteArray), .int .i64 0, .slice none 0 0, .int .i64 0]) (t := 24) ?hr ?_; (case hd => rfl); (case hg => rfl); (case hr => first | (go_simp; done) | (go_simp; rfl)); intro gb583 hg w16 hbox hb; have n0_ := Aside0.mk (Kd.R_below (by (with_reducible repeat (first | apply Kd.R_alloc | apply Kd.R_drewN | apply Kd.R_drew)); exact HO579.out) hb); have n1_ := Aside0.mk (below_step (by repeat (first | (with_reducible first | exact HB.out | apply below_alloc | apply pw_below_drewN | apply below_drew1) | exact HB.out)) hb); have n2_ := Aside0.mk (hbox); have n3_ := Aside0.mk ((by rw [hg]; exact (below_size (by repeat (first | (with_reducible first | exact HB.out | apply below_alloc | apply pw_below_drewN | apply below_drew1) | exact HB.out))) : w.heap.size ≤ gb583)); have n4_ := Aside0.mk ((by rw [hg]; exact (below_size (by repeat (first | (with_reducible first | exact HB.out | apply below_alloc | apply pw_below_drewN | apply below_drew1) | exact HB.out))) : w.heap.size ≤ gb583)); clear HO579; clear HB; have HO579 := n0_; have HB := n1_; have BK583 := n2_; have GW583 := n3_; have GE583 := n4_; clear n0_ n1_ n2_ n3_ n4_; clear hb hbox hg; have hcz17_0 : w16.cell? ⟨gb583, 0, none⟩ = some (.int .i64 0) := (blk_cell BK583.out 0).trans rfl; have hcz17_1 : w16.cell? ⟨gb583, 1, none⟩ = some (.int .i64 0) := (blk_cell BK583.out 1).trans rfl; have hcz17_2 : w16.cell? ⟨gb583, 2, none⟩ = some (.string (⟨#[]⟩ : ByteArray)) := (blk_cell BK583.out 2).trans rfl; have hcz17_3 : w16.cell? ⟨gb583, 3, none⟩ = some (.int .i64 0) := (blk_cell BK583.out 3).trans rfl; have hcz17_4 : w16.cell? ⟨gb583, 4, none⟩ = some (.slice none 0 0) := (blk_cell BK583.out 4).trans rfl; have hcz17_5 : w16.cell? ⟨gb583, 5, none⟩ = some (.int .i64 0) := (blk_cell BK583.out 5).trans rfl; have hfz17_0 := blk_frozen BK583.out 0; have hfz17_1 := blk_frozen BK583.out 1; have hfz17_2 := blk_frozen BK583.out 2; have hfz17_3 := blk_frozen BK583.out 3; have hfz17_4 := blk_frozen BK583.out 4; have hfz17_5 := blk_frozen BK583.out 5; obtain ⟨Ao18, co18, eo18⟩ := Kd.R_slice HO579.out; subst eo18))
    (try simp only [Act.put, List.setIfInBounds_toArray, List.set_cons_zero, List.set_cons_succ])
    go_cut [] (fun wc => ∃ (kq : Nat), Aside0 (surmiselaw10_CodecOnce.j1 kq a0 a1 = some r) ∧ Aside0 (kq ≤ kj2) ∧ Aside0 (Kd.R (Kd.int .i64) 3 wc w.heap.size (fun _ => True) (.slice Ao18 t577.length co18) t577) ∧ Aside0 (wc.heap[gb583]? = some (.cells #[.int .i64 t573, .int .i64 t574, .string t575, .int .i64 t576, (.slice Ao18 t577.length co18), .int .i64 t580] 24 (0, 0))) ∧ Aside0 (Below w.heap.size w wc))
    case first =>
     have H := HC14.out
     clear HC14
     by_cases c19 : t582 = 0
     ·rw [if_pos c19] at H
      have c19b0 : (t582 == 0) = true := beq_iff_eq.mpr c19
      have c19b1 : (t582 != 0) = false := bne_eq_false_iff_eq.mpr c19
      clear c19
      (first | rw [c19b0] | (simp only [i64_w, i32_w]; rw [c19b0]) | skip)
      replace H := Option.bind_eq_some_iff.mp H
      obtain ⟨⟨t584, t585⟩, A200, H⟩ := H
      replace H : (if t585 = 0 then (if 0 ≤ a1 then (if a1 ≤ t581 then (if t581 ≤ (a0.size : Int) then (if t584.toList = (a0.extract (a1 : Int).toNat (t581 : Int).toNat).toList then (surmiselaw10_CodecOnce.j1 kj2 a0 a1) else (some false)) else (none)) else (none)) else (none)) else (some false)) = some r := H
      have A20 := Aside0.mk A200
      clear A200
      by_cases c21 : t585 = 0
      ·rw [if_pos c21] at H
       have c21b0 : (t585 == 0) = true := beq_iff_eq.mpr c21
       have c21b1 : (t585 != 0) = false := bne_eq_false_iff_eq.mpr c21
       clear c21
       by_cases c22 : 0 ≤ a1
       ·rw [if_pos c22] at H
        have c22b0 := eq_true c22
        have c22b1 : decide (0 ≤ a1) = true := decide_eq_true c22
        clear c22
        by_cases c23 : a1 ≤ t581
        ·rw [if_pos c23] at H
         have c23b0 := eq_true c23
         have c23b1 : decide (a1 ≤ t581) = true := decide_eq_true c23
         clear c23
         by_cases c24 : t581 ≤ (a0.size : Int)
         ·rw [if_pos c24] at H
          have c24b0 := eq_true c24
          have c24b1 : decide (t581 ≤ (a0.size : Int)) = true := decide_eq_true c24
          clear c24
          by_cases c25 : t584.toList = (a0.extract (a1 : Int).toNat (t581 : Int).toNat).toList
          ·rw [if_pos c25] at H
           have c25b0 : (t584.toList == (a0.extract (a1 : Int).toNat (t581 : Int).toNat).toList) = true := beq_iff_eq.mpr c25
           have c25b1 : (t584.toList != (a0.extract (a1 : Int).toNat (t581 : Int).toNat).toList) = false := bne_eq_false_iff_eq.mpr c25
           clear c25
           have H' := Aside0.mk H
           clear H
           have hcz26_0 : w16.cell? ⟨gb583, 0, none⟩ = some (.int .i64 0) := (blk_cell BK583.out 0).trans rfl
           have hcz26_1 : w16.cell? ⟨gb583, 1, none⟩ = some (.int .i64 0) := (blk_cell BK583.out 1).trans rfl
           have hcz26_2 : w16.cell? ⟨gb583, 2, none⟩ = some (.string (⟨#[]⟩ : ByteArray)) := (blk_cell BK583.out 2).trans rfl
           have hcz26_3 : w16.cell? ⟨gb583, 3, none⟩ = some (.int .i64 0) := (blk_cell BK583.out 3).trans rfl
           have hcz26_4 : w16.cell? ⟨gb583, 4, none⟩ = some (.slice none 0 0) := (blk_cell BK583.out 4).trans rfl
           have hcz26_5 : w16.cell? ⟨gb583, 5, none⟩ = some (.int .i64 0) := (blk_cell BK583.out 5).trans rfl
           have hfz26_0 := blk_frozen BK583.out 0
           have hfz26_1 := blk_frozen BK583.out 1
           have hfz26_2 := blk_frozen BK583.out 2
           have hfz26_3 := blk_frozen BK583.out 3
           have hfz26_4 := blk_frozen BK583.out 4
           have hfz26_5 := blk_frozen BK583.out 5
           go_wp2_with (first | ((with_reducible refine gate_callee (f := 7) rfl ?_); refine goesL_ (some 49) rfl rfl Try.func7 (by kernel_rfl) rfl #[.agg #[.int .i64 t573, .int .i64 t574, .string t575, .int .i64 t576, .slice Ao18 t577.length co18, .int .i64 t580]] rfl (by (try simp only [List.map_toArray, List.map_cons, List.map_nil]); first | done | rfl | (simp only [List.length_drop, List.length_take]; rfl)) ?_; (with_reducible refine (codec_PutCmd.calls kj2 t573 t574 t575 t576 _ _ t577 t580 t584 t585 _ ?side1 ?side2 A20.out).mono ?_); (case side1 => refine (Kd.R_reads' (e := 3) (base := w.heap.size) (ok := fun k_ => True) (n := t577.length) (c := co18) ?_).2.2; exact (by (with_reducible repeat (first | apply Kd.R_alloc | apply Kd.R_drewN | apply Kd.R_drew)); exact (Kd.R_mono (Kd.R_far (p := ⟨gb583, 5, none⟩) (Kd.R_far (p := ⟨gb583, 4, none⟩) (Kd.R_far (p := ⟨gb583, 3, none⟩) (Kd.R_far (p := ⟨gb583, 2, none⟩) (Kd.R_far (p := ⟨gb583, 1, none⟩) (Kd.R_far (p := ⟨gb583, 0, none⟩) (Kd.R_types HO579.out BK583.out (by decide)) (fun _ hk => hk.2) (.int .i64 t573)) (fun _ hk => hk.2) (.int .i64 t574)) (fun _ hk => hk.2) (.string t575)) (fun _ hk => hk.2) (.int .i64 t576)) (fun _ hk => hk.2) (.slice Ao18 t577.length co18)) (fun _ hk => hk.2) (.int .i64 t580)) (fun _ h_ => h_.1)))); (case side2 => exact (Kd.R_reads' HO579.out).2.1); rintro e w27 ⟨rfl, hb⟩; refine ⟨_, rfl, ?_⟩; have n0_ := Aside0.mk (Kd.R_below (by (with_reducible repeat (first | apply Kd.R_alloc | apply Kd.R_drewN | apply Kd.R_drew)); exact (Kd.R_mono (Kd.R_far (p := ⟨gb583, 5, none⟩) (Kd.R_far (p := ⟨gb583, 4, none⟩) (Kd.R_far (p := ⟨gb583, 3, none⟩) (Kd.R_far (p := ⟨gb583, 2, none⟩) (Kd.R_far (p := ⟨gb583, 1, none⟩) (Kd.R_far (p := ⟨gb583, 0, none⟩) (Kd.R_types HO579.out BK583.out (by decide)) (fun _ hk => hk.2) (.int .i64 t573)) (fun _ hk => hk.2) (.int .i64 t574)) (fun _ hk => hk.2) (.string t575)) (fun _ hk => hk.2) (.int .i64 t576)) (fun _ hk => hk.2) (.slice Ao18 t577.length co18)) (fun _ hk => hk.2) (.int .i64 t580)) (fun _ h_ => h_.1))) hb); have n1_ := Aside0.mk (blk_below (g := gb583) (o := .cells #[.int .i64 t573, .int .i64 t574, .string t575, .int .i64 t576, .slice Ao18 t577.length co18, .int .i64 t580] 24 (0, 0)) (by (with_reducible repeat (first | refine blk_drewN ?_ _ | refine blk_drew ?_ | refine blk_alloc ?_ _)); refine blk_put (cs := #[.int .i64 t573, .int .i64 t574, .string t575, .int .i64 t576, .slice Ao18 t577.length co18, .int .i64 0]) ?_ 5 _ rfl; (with_reducible repeat (first | refine blk_drewN ?_ _ | refine blk_drew ?_ | refine blk_alloc ?_ _)); refine blk_put (cs := #[.int .i64 t573, .int .i64 t574, .string t575, .int .i64 t576, .slice none 0 0, .int .i64 0]) ?_ 4 _ rfl; (with_reducible repeat (first | refine blk_drewN ?_ _ | refine blk_drew ?_ | refine blk_alloc ?_ _)); refine blk_put (cs := #[.int .i64 t573, .int .i64 t574, .string t575, .int .i64 0, .slice none 0 0, .int .i64 0]) ?_ 3 _ rfl; (with_reducible repeat (first | refine blk_drewN ?_ _ | refine blk_drew ?_ | refine blk_alloc ?_ _)); refine blk_put (cs := #[.int .i64 t573, .int .i64 t574, .string (⟨#[]⟩ : ByteArray), .int .i64 0, .slice none 0 0, .int .i64 0]) ?_ 2 _ rfl; (with_reducible repeat (first | refine blk_drewN ?_ _ | refine blk_drew ?_ | refine blk_alloc ?_ _)); refine blk_put (cs := #[.int .i64 t573, .int .i64 0, .string (⟨#[]⟩ : ByteArray), .int .i64 0, .slice none 0 0, .int .i64 0]) ?_ 1 _ rfl; (with_reducible repeat (first | refine blk_drewN ?_ _ | refine blk_drew ?_ | refine blk_alloc ?_ _)); refine blk_put (cs := #[.int .i64 0, .int .i64 0, .string (⟨#[]⟩ : ByteArray), .int .i64 0, .slice none 0 0, .int .i64 0]) ?_ 0 _ rfl; (with_reducible repeat (first | refine blk_drewN ?_ _ | refine blk_drew ?_ | refine blk_alloc ?_ _)); exact BK583.out) hb); have n2_ := Aside0.mk (below_step (by repeat (first | (with_reducible first | exact HB.out | apply below_alloc | apply pw_below_drewN | apply below_drew1 | refine below_set ?_ GE583.out) | exact HB.out)) hb); clear HO579; clear BK583; clear HB; have HO579 := n0_; have BK583 := n1_; have HB := n2_; clear n0_ n1_ n2_; (try clear hb); (try clear hb2); (try clear hk); (try clear hi)))
           go_meet
           case rel => exact ⟨_, H', ⟨by have := HJ2.out; first | omega | exact Nat.le_refl _⟩, ⟨by (with_reducible repeat (first | apply Kd.R_alloc | apply Kd.R_drewN | apply Kd.R_drew)); exact HO579.out⟩, ⟨by (with_reducible repeat (first | refine blk_drewN ?_ _ | refine blk_drew ?_ | refine blk_alloc ?_ _)); exact BK583.out⟩, ⟨by repeat (first | (with_reducible first | exact HB.out | apply below_alloc | apply pw_below_drewN | apply below_drew1 | refine below_set ?_ GE583.out) | exact HB.out)⟩⟩
          ·rw [if_neg c25] at H
           have c25b0 : (t584.toList == (a0.extract (a1 : Int).toNat (t581 : Int).toNat).toList) = false := beq_eq_false_iff_ne.mpr c25
           have c25b1 : (t584.toList != (a0.extract (a1 : Int).toNat (t581 : Int).toNat).toList) = true := bne_iff_ne.mpr c25
           obtain rfl := Option.some.inj H
           have hcz28_0 : w16.cell? ⟨gb583, 0, none⟩ = some (.int .i64 0) := (blk_cell BK583.out 0).trans rfl
           have hcz28_1 : w16.cell? ⟨gb583, 1, none⟩ = some (.int .i64 0) := (blk_cell BK583.out 1).trans rfl
           have hcz28_2 : w16.cell? ⟨gb583, 2, none⟩ = some (.string (⟨#[]⟩ : ByteArray)) := (blk_cell BK583.out 2).trans rfl
           have hcz28_3 : w16.cell? ⟨gb583, 3, none⟩ = some (.int .i64 0) := (blk_cell BK583.out 3).trans rfl
           have hcz28_4 : w16.cell? ⟨gb583, 4, none⟩ = some (.slice none 0 0) := (blk_cell BK583.out 4).trans rfl
           have hcz28_5 : w16.cell? ⟨gb583, 5, none⟩ = some (.int .i64 0) := (blk_cell BK583.out 5).trans rfl
           have hfz28_0 := blk_frozen BK583.out 0
           have hfz28_1 := blk_frozen BK583.out 1
           have hfz28_2 := blk_frozen BK583.out 2
           have hfz28_3 := blk_frozen BK583.out 3
           have hfz28_4 := blk_frozen BK583.out 4
           have hfz28_5 := blk_frozen BK583.out 5
           go_wp2_with (first | ((with_reducible refine gate_callee (f := 7) rfl ?_); refine goesL_ (some 49) rfl rfl Try.func7 (by kernel_rfl) rfl #[.agg #[.int .i64 t573, .int .i64 t574, .string t575, .int .i64 t576, .slice Ao18 t577.length co18, .int .i64 t580]] rfl (by (try simp only [List.map_toArray, List.map_cons, List.map_nil]); first | done | rfl | (simp only [List.length_drop, List.length_take]; rfl)) ?_; (with_reducible refine (codec_PutCmd.calls kj2 t573 t574 t575 t576 _ _ t577 t580 t584 t585 _ ?side1 ?side2 A20.out).mono ?_); (case side1 => refine (Kd.R_reads' (e := 3) (base := w.heap.size) (ok := fun k_ => True) (n := t577.length) (c := co18) ?_).2.2; exact (by (with_reducible repeat (first | apply Kd.R_alloc | apply Kd.R_drewN | apply Kd.R_drew)); exact (Kd.R_mono (Kd.R_far (p := ⟨gb583, 5, none⟩) (Kd.R_far (p := ⟨gb583, 4, none⟩) (Kd.R_far (p := ⟨gb583, 3, none⟩) (Kd.R_far (p := ⟨gb583, 2, none⟩) (Kd.R_far (p := ⟨gb583, 1, none⟩) (Kd.R_far (p := ⟨gb583, 0, none⟩) (Kd.R_types HO579.out BK583.out (by decide)) (fun _ hk => hk.2) (.int .i64 t573)) (fun _ hk => hk.2) (.int .i64 t574)) (fun _ hk => hk.2) (.string t575)) (fun _ hk => hk.2) (.int .i64 t576)) (fun _ hk => hk.2) (.slice Ao18 t577.length co18)) (fun _ hk => hk.2) (.int .i64 t580)) (fun _ h_ => h_.1)))); (case side2 => exact (Kd.R_reads' HO579.out).2.1); rintro e w29 ⟨rfl, hb⟩; refine ⟨_, rfl, ?_⟩; have n0_ := Aside0.mk (Kd.R_below (by (with_reducible repeat (first | apply Kd.R_alloc | apply Kd.R_drewN | apply Kd.R_drew)); exact (Kd.R_mono (Kd.R_far (p := ⟨gb583, 5, none⟩) (Kd.R_far (p := ⟨gb583, 4, none⟩) (Kd.R_far (p := ⟨gb583, 3, none⟩) (Kd.R_far (p := ⟨gb583, 2, none⟩) (Kd.R_far (p := ⟨gb583, 1, none⟩) (Kd.R_far (p := ⟨gb583, 0, none⟩) (Kd.R_types HO579.out BK583.out (by decide)) (fun _ hk => hk.2) (.int .i64 t573)) (fun _ hk => hk.2) (.int .i64 t574)) (fun _ hk => hk.2) (.string t575)) (fun _ hk => hk.2) (.int .i64 t576)) (fun _ hk => hk.2) (.slice Ao18 t577.length co18)) (fun _ hk => hk.2) (.int .i64 t580)) (fun _ h_ => h_.1))) hb); have n1_ := Aside0.mk (blk_below (g := gb583) (o := .cells #[.int .i64 t573, .int .i64 t574, .string t575, .int .i64 t576, .slice Ao18 t577.length co18, .int .i64 t580] 24 (0, 0)) (by (with_reducible repeat (first | refine blk_drewN ?_ _ | refine blk_drew ?_ | refine blk_alloc ?_ _)); refine blk_put (cs := #[.int .i64 t573, .int .i64 t574, .string t575, .int .i64 t576, .slice Ao18 t577.length co18, .int .i64 0]) ?_ 5 _ rfl; (with_reducible repeat (first | refine blk_drewN ?_ _ | refine blk_drew ?_ | refine blk_alloc ?_ _)); refine blk_put (cs := #[.int .i64 t573, .int .i64 t574, .string t575, .int .i64 t576, .slice none 0 0, .int .i64 0]) ?_ 4 _ rfl; (with_reducible repeat (first | refine blk_drewN ?_ _ | refine blk_drew ?_ | refine blk_alloc ?_ _)); refine blk_put (cs := #[.int .i64 t573, .int .i64 t574, .string t575, .int .i64 0, .slice none 0 0, .int .i64 0]) ?_ 3 _ rfl; (with_reducible repeat (first | refine blk_drewN ?_ _ | refine blk_drew ?_ | refine blk_alloc ?_ _)); refine blk_put (cs := #[.int .i64 t573, .int .i64 t574, .string (⟨#[]⟩ : ByteArray), .int .i64 0, .slice none 0 0, .int .i64 0]) ?_ 2 _ rfl; (with_reducible repeat (first | refine blk_drewN ?_ _ | refine blk_drew ?_ | refine blk_alloc ?_ _)); refine blk_put (cs := #[.int .i64 t573, .int .i64 0, .string (⟨#[]⟩ : ByteArray), .int .i64 0, .slice none 0 0, .int .i64 0]) ?_ 1 _ rfl; (with_reducible repeat (first | refine blk_drewN ?_ _ | refine blk_drew ?_ | refine blk_alloc ?_ _)); refine blk_put (cs := #[.int .i64 0, .int .i64 0, .string (⟨#[]⟩ : ByteArray), .int .i64 0, .slice none 0 0, .int .i64 0]) ?_ 0 _ rfl; (with_reducible repeat (first | refine blk_drewN ?_ _ | refine blk_drew ?_ | refine blk_alloc ?_ _)); exact BK583.out) hb); have n2_ := Aside0.mk (below_step (by repeat (first | (with_reducible first | exact HB.out | apply below_alloc | apply pw_below_drewN | apply below_drew1 | refine below_set ?_ GE583.out) | exact HB.out)) hb); clear HO579; clear BK583; clear HB; have HO579 := n0_; have BK583 := n1_; have HB := n2_; clear n0_ n1_ n2_; (try clear hb); (try clear hb2); (try clear hk); (try clear hi)))
           go_ret
           exact ⟨by first | rfl | (simp [errW_none, errW_some] <;> rfl) | (simp [*, errW_none, errW_some] <;> rfl), by repeat (first | (with_reducible first | exact HB.out | apply below_alloc | apply pw_below_drewN | apply below_drew1 | refine below_set ?_ GE583.out) | exact HB.out)⟩
         ·rw [if_neg c24] at H
          exact absurd H (by simp)
        ·rw [if_neg c23] at H
         exact absurd H (by simp)
       ·rw [if_neg c22] at H
        exact absurd H (by simp)
      ·rw [if_neg c21] at H
       have c21b0 : (t585 == 0) = false := beq_eq_false_iff_ne.mpr c21
       have c21b1 : (t585 != 0) = true := bne_iff_ne.mpr c21
       obtain rfl := Option.some.inj H
       have hcz30_0 : w16.cell? ⟨gb583, 0, none⟩ = some (.int .i64 0) := (blk_cell BK583.out 0).trans rfl
       have hcz30_1 : w16.cell? ⟨gb583, 1, none⟩ = some (.int .i64 0) := (blk_cell BK583.out 1).trans rfl
       have hcz30_2 : w16.cell? ⟨gb583, 2, none⟩ = some (.string (⟨#[]⟩ : ByteArray)) := (blk_cell BK583.out 2).trans rfl
       have hcz30_3 : w16.cell? ⟨gb583, 3, none⟩ = some (.int .i64 0) := (blk_cell BK583.out 3).trans rfl
       have hcz30_4 : w16.cell? ⟨gb583, 4, none⟩ = some (.slice none 0 0) := (blk_cell BK583.out 4).trans rfl
       have hcz30_5 : w16.cell? ⟨gb583, 5, none⟩ = some (.int .i64 0) := (blk_cell BK583.out 5).trans rfl
       have hfz30_0 := blk_frozen BK583.out 0
       have hfz30_1 := blk_frozen BK583.out 1
       have hfz30_2 := blk_frozen BK583.out 2
       have hfz30_3 := blk_frozen BK583.out 3
       have hfz30_4 := blk_frozen BK583.out 4
       have hfz30_5 := blk_frozen BK583.out 5
       go_wp2_with (first | ((with_reducible refine gate_callee (f := 7) rfl ?_); refine goesL_ (some 49) rfl rfl Try.func7 (by kernel_rfl) rfl #[.agg #[.int .i64 t573, .int .i64 t574, .string t575, .int .i64 t576, .slice Ao18 t577.length co18, .int .i64 t580]] rfl (by (try simp only [List.map_toArray, List.map_cons, List.map_nil]); first | done | rfl | (simp only [List.length_drop, List.length_take]; rfl)) ?_; (with_reducible refine (codec_PutCmd.calls kj2 t573 t574 t575 t576 _ _ t577 t580 t584 t585 _ ?side1 ?side2 A20.out).mono ?_); (case side1 => refine (Kd.R_reads' (e := 3) (base := w.heap.size) (ok := fun k_ => True) (n := t577.length) (c := co18) ?_).2.2; exact (by (with_reducible repeat (first | apply Kd.R_alloc | apply Kd.R_drewN | apply Kd.R_drew)); exact (Kd.R_mono (Kd.R_far (p := ⟨gb583, 5, none⟩) (Kd.R_far (p := ⟨gb583, 4, none⟩) (Kd.R_far (p := ⟨gb583, 3, none⟩) (Kd.R_far (p := ⟨gb583, 2, none⟩) (Kd.R_far (p := ⟨gb583, 1, none⟩) (Kd.R_far (p := ⟨gb583, 0, none⟩) (Kd.R_types HO579.out BK583.out (by decide)) (fun _ hk => hk.2) (.int .i64 t573)) (fun _ hk => hk.2) (.int .i64 t574)) (fun _ hk => hk.2) (.string t575)) (fun _ hk => hk.2) (.int .i64 t576)) (fun _ hk => hk.2) (.slice Ao18 t577.length co18)) (fun _ hk => hk.2) (.int .i64 t580)) (fun _ h_ => h_.1)))); (case side2 => exact (Kd.R_reads' HO579.out).2.1); rintro e w31 ⟨rfl, hb⟩; refine ⟨_, rfl, ?_⟩; have n0_ := Aside0.mk (Kd.R_below (by (with_reducible repeat (first | apply Kd.R_alloc | apply Kd.R_drewN | apply Kd.R_drew)); exact (Kd.R_mono (Kd.R_far (p := ⟨gb583, 5, none⟩) (Kd.R_far (p := ⟨gb583, 4, none⟩) (Kd.R_far (p := ⟨gb583, 3, none⟩) (Kd.R_far (p := ⟨gb583, 2, none⟩) (Kd.R_far (p := ⟨gb583, 1, none⟩) (Kd.R_far (p := ⟨gb583, 0, none⟩) (Kd.R_types HO579.out BK583.out (by decide)) (fun _ hk => hk.2) (.int .i64 t573)) (fun _ hk => hk.2) (.int .i64 t574)) (fun _ hk => hk.2) (.string t575)) (fun _ hk => hk.2) (.int .i64 t576)) (fun _ hk => hk.2) (.slice Ao18 t577.length co18)) (fun _ hk => hk.2) (.int .i64 t580)) (fun _ h_ => h_.1))) hb); have n1_ := Aside0.mk (blk_below (g := gb583) (o := .cells #[.int .i64 t573, .int .i64 t574, .string t575, .int .i64 t576, .slice Ao18 t577.length co18, .int .i64 t580] 24 (0, 0)) (by (with_reducible repeat (first | refine blk_drewN ?_ _ | refine blk_drew ?_ | refine blk_alloc ?_ _)); refine blk_put (cs := #[.int .i64 t573, .int .i64 t574, .string t575, .int .i64 t576, .slice Ao18 t577.length co18, .int .i64 0]) ?_ 5 _ rfl; (with_reducible repeat (first | refine blk_drewN ?_ _ | refine blk_drew ?_ | refine blk_alloc ?_ _)); refine blk_put (cs := #[.int .i64 t573, .int .i64 t574, .string t575, .int .i64 t576, .slice none 0 0, .int .i64 0]) ?_ 4 _ rfl; (with_reducible repeat (first | refine blk_drewN ?_ _ | refine blk_drew ?_ | refine blk_alloc ?_ _)); refine blk_put (cs := #[.int .i64 t573, .int .i64 t574, .string t575, .int .i64 0, .slice none 0 0, .int .i64 0]) ?_ 3 _ rfl; (with_reducible repeat (first | refine blk_drewN ?_ _ | refine blk_drew ?_ | refine blk_alloc ?_ _)); refine blk_put (cs := #[.int .i64 t573, .int .i64 t574, .string (⟨#[]⟩ : ByteArray), .int .i64 0, .slice none 0 0, .int .i64 0]) ?_ 2 _ rfl; (with_reducible repeat (first | refine blk_drewN ?_ _ | refine blk_drew ?_ | refine blk_alloc ?_ _)); refine blk_put (cs := #[.int .i64 t573, .int .i64 0, .string (⟨#[]⟩ : ByteArray), .int .i64 0, .slice none 0 0, .int .i64 0]) ?_ 1 _ rfl; (with_reducible repeat (first | refine blk_drewN ?_ _ | refine blk_drew ?_ | refine blk_alloc ?_ _)); refine blk_put (cs := #[.int .i64 0, .int .i64 0, .string (⟨#[]⟩ : ByteArray), .int .i64 0, .slice none 0 0, .int .i64 0]) ?_ 0 _ rfl; (with_reducible repeat (first | refine blk_drewN ?_ _ | refine blk_drew ?_ | refine blk_alloc ?_ _)); exact BK583.out) hb); have n2_ := Aside0.mk (below_step (by repeat (first | (with_reducible first | exact HB.out | apply below_alloc | apply pw_below_drewN | apply below_drew1 | refine below_set ?_ GE583.out) | exact HB.out)) hb); clear HO579; clear BK583; clear HB; have HO579 := n0_; have BK583 := n1_; have HB := n2_; clear n0_ n1_ n2_; (try clear hb); (try clear hb2); (try clear hk); (try clear hi)))
       go_ret
       exact ⟨by first | rfl | (simp [errW_none, errW_some] <;> rfl) | (simp [*, errW_none, errW_some] <;> rfl), by repeat (first | (with_reducible first | exact HB.out | apply below_alloc | apply pw_below_drewN | apply below_drew1 | refine below_set ?_ GE583.out) | exact HB.out)⟩
     ·rw [if_neg c19] at H
      have c19b0 : (t582 == 0) = false := beq_eq_false_iff_ne.mpr c19
      have c19b1 : (t582 != 0) = true := bne_iff_ne.mpr c19
      (first | rw [c19b0] | (simp only [i64_w, i32_w]; rw [c19b0]) | skip)
      have H' := Aside0.mk H
      clear H
      go_wp2
      go_meet
      case rel => exact ⟨_, H', ⟨by have := HJ2.out; first | omega | exact Nat.le_refl _⟩, ⟨by (with_reducible repeat (first | apply Kd.R_alloc | apply Kd.R_drewN | apply Kd.R_drew)); exact Kd.R_mono (Kd.R_far (p := ⟨gb583, 5, none⟩) (Kd.R_far (p := ⟨gb583, 4, none⟩) (Kd.R_far (p := ⟨gb583, 3, none⟩) (Kd.R_far (p := ⟨gb583, 2, none⟩) (Kd.R_far (p := ⟨gb583, 1, none⟩) (Kd.R_far (p := ⟨gb583, 0, none⟩) (Kd.R_types HO579.out BK583.out (by decide)) (fun _ hk => hk.2) (.int .i64 t573)) (fun _ hk => hk.2) (.int .i64 t574)) (fun _ hk => hk.2) (.string t575)) (fun _ hk => hk.2) (.int .i64 t576)) (fun _ hk => hk.2) (.slice Ao18 t577.length co18)) (fun _ hk => hk.2) (.int .i64 t580)) (fun _ hk => trivial)⟩, ⟨by (with_reducible repeat (first | refine blk_drewN ?_ _ | refine blk_drew ?_ | refine blk_alloc ?_ _)); refine blk_put (cs := #[.int .i64 t573, .int .i64 t574, .string t575, .int .i64 t576, .slice Ao18 t577.length co18, .int .i64 0]) ?_ 5 _ rfl; (with_reducible repeat (first | refine blk_drewN ?_ _ | refine blk_drew ?_ | refine blk_alloc ?_ _)); refine blk_put (cs := #[.int .i64 t573, .int .i64 t574, .string t575, .int .i64 t576, .slice none 0 0, .int .i64 0]) ?_ 4 _ rfl; (with_reducible repeat (first | refine blk_drewN ?_ _ | refine blk_drew ?_ | refine blk_alloc ?_ _)); refine blk_put (cs := #[.int .i64 t573, .int .i64 t574, .string t575, .int .i64 0, .slice none 0 0, .int .i64 0]) ?_ 3 _ rfl; (with_reducible repeat (first | refine blk_drewN ?_ _ | refine blk_drew ?_ | refine blk_alloc ?_ _)); refine blk_put (cs := #[.int .i64 t573, .int .i64 t574, .string (⟨#[]⟩ : ByteArray), .int .i64 0, .slice none 0 0, .int .i64 0]) ?_ 2 _ rfl; (with_reducible repeat (first | refine blk_drewN ?_ _ | refine blk_drew ?_ | refine blk_alloc ?_ _)); refine blk_put (cs := #[.int .i64 t573, .int .i64 0, .string (⟨#[]⟩ : ByteArray), .int .i64 0, .slice none 0 0, .int .i64 0]) ?_ 1 _ rfl; (with_reducible repeat (first | refine blk_drewN ?_ _ | refine blk_drew ?_ | refine blk_alloc ?_ _)); refine blk_put (cs := #[.int .i64 0, .int .i64 0, .string (⟨#[]⟩ : ByteArray), .int .i64 0, .slice none 0 0, .int .i64 0]) ?_ 0 _ rfl; (with_reducible repeat (first | refine blk_drewN ?_ _ | refine blk_drew ?_ | refine blk_alloc ?_ _)); exact BK583.out⟩, ⟨by repeat (first | (with_reducible first | exact HB.out | apply below_alloc | apply pw_below_drewN | apply below_drew1 | refine below_set ?_ GE583.out) | exact HB.out)⟩⟩
    case rest =>
     clear HC14
     try clear c1
     try clear c2
     try clear p2
     try clear c5
     try clear c6
     try clear c6b0
     try clear c7
     try clear c10
     try clear c11
     try clear c19
     try clear c19b0
     try clear c19b1
     try clear c21
     try clear c21b0
     try clear c21b1
     try clear c22
     try clear c22b0
     try clear c22b1
     try clear c23
     try clear c23b0
     try clear c23b1
     try clear c24
     try clear c24b0
     try clear c24b1
     try clear c25
     try clear c25b0
     try clear c25b1
     try clear c28
     try clear hcz17_0
     try clear hcz17_1
     try clear hcz17_2
     try clear hcz17_3
     try clear hcz17_4
     try clear hcz17_5
     try clear hcz26_0
     try clear hcz26_1
     try clear hcz26_2
     try clear hcz26_3
     try clear hcz26_4
     try clear hcz26_5
     try clear hcz28_0
     try clear hcz28_1
     try clear hcz28_2
     try clear hcz28_3
     try clear hcz28_4
     try clear hcz28_5
     try clear hcz30_0
     try clear hcz30_1
     try clear hcz30_2
     try clear hcz30_3
     try clear hcz30_4
     try clear hcz30_5
     try clear hfz17_0
     try clear hfz17_1
     try clear hfz17_2
     try clear hfz17_3
     try clear hfz17_4
     try clear hfz17_5
     try clear hfz26_0
     try clear hfz26_1
     try clear hfz26_2
     try clear hfz26_3
     try clear hfz26_4
     try clear hfz26_5
     try clear hfz28_0
     try clear hfz28_1
     try clear hfz28_2
     try clear hfz28_3
     try clear hfz28_4
     try clear hfz28_5
     try clear hfz30_0
     try clear hfz30_1
     try clear hfz30_2
     try clear hfz30_3
     try clear hfz30_4
     try clear hfz30_5
     try clear p2
     obtain ⟨kq, HA, HJ13, HO_584004, BK583, HB⟩ := hcut
     cases kq with
     | zero => exact absurd HA.out (by simp [surmiselaw10_CodecOnce.j1])
     | succ kj13 =>
      have H := HA.out
      clear HA
      simp only [surmiselaw10_CodecOnce.j1] at H
      replace H := Option.bind_eq_some_iff.mp H
      obtain ⟨⟨t586, t587, t588, t589, t590, t593, t594⟩, A320, H⟩ := H
      replace H : (if t594 = 0 then ((codec_PutRecord.f kj13 t586 t587 t588 t589 t590).bind fun bt596 => (if bt596.2 = 0 then (if 0 ≤ a1 then (if a1 ≤ t593 then (if t593 ≤ (a0.size : Int) then (if bt596.1.toList = (a0.extract (a1 : Int).toNat (t593 : Int).toNat).toList then (surmiselaw10_CodecOnce.j2 kj13 a0 a1) else (some false)) else (none)) else (none)) else (none)) else (some false))) else (surmiselaw10_CodecOnce.j2 kj13 a0 a1)) = some r := H
      have A32 := Aside0.mk A320
      clear A320
      have HC33 := Aside0.mk H
      clear H
      go_upto_if 70 with (first | ((with_reducible refine gate_callee (f := 29) rfl ?_); refine goesL_ (some 65) rfl rfl Try.func29 (by kernel_rfl) rfl #[.string a0, .int .i64 a1] rfl (by (try simp only [List.map_toArray, List.map_cons, List.map_nil]); first | done | rfl | (simp only [List.length_drop, List.length_take]; rfl)) ?_; (with_reducible refine (codec_ReadRecord.calls kj13 a0 a1 t586 t587 t588 t589 t590 t593 t594 _ A32.out).mono ?_); rintro e w34 ⟨v591, rfl, ho0, hb⟩; refine ⟨_, rfl, ?_⟩; have n0_ := Aside0.mk (Kd.R_below (by (with_reducible repeat (first | apply Kd.R_alloc | apply Kd.R_drewN | apply Kd.R_drew)); exact HO_584004.out) hb); have n1_ := Aside0.mk (Kd.S_lower (Kd.S_new' ho0 (Kd.R_lt (by (with_reducible repeat (first | apply Kd.R_alloc | apply Kd.R_drewN | apply Kd.R_drew)); exact HO_584004.out))) (below_size (by repeat (first | (with_reducible first | exact HB.out | apply below_alloc | apply pw_below_drewN | apply below_drew1 | refine below_set ?_ GE583.out) | exact HB.out)))); have n2_ := Aside0.mk (blk_below (g := gb583) (o := .cells #[.int .i64 t573, .int .i64 t574, .string t575, .int .i64 t576, .slice Ao18 t577.length co18, .int .i64 t580] 24 (0, 0)) (by (with_reducible repeat (first | refine blk_drewN ?_ _ | refine blk_drew ?_ | refine blk_alloc ?_ _)); exact BK583.out) hb); have n3_ := Aside0.mk (below_step (by repeat (first | (with_reducible first | exact HB.out | apply below_alloc | apply pw_below_drewN | apply below_drew1 | refine below_set ?_ GE583.out) | exact HB.out)) hb); clear HO_584004; clear BK583; clear HB; have HO_584004 := n0_; have HO592 := n1_; have BK583 := n2_; have HB := n3_; clear n0_ n1_ n2_ n3_; (try clear hb); (try clear hb2); (try clear hk); (try clear hi); (try clear ho0)) | ((with_reducible refine gate_dst (N := 10) rfl ?_); (try (refine gate_guard (by rfl) ?_; dsimp only)); refine box_event ?hg (N := 10) ?hd (cs := #[.int .i64 0, .int .i64 0, .string (⟨#[]⟩ : ByteArray), .int .i64 0, .slice none 0 0]) (t := 27) ?hr ?_; (case hd => rfl); (case hg => rfl); (case hr => first | (go_simp; done) | (go_simp; rfl)); intro gb595 hg w35 hbox hb; have n0_ := Aside0.mk (Kd.R_below (by (with_reducible repeat (first | apply Kd.R_alloc | apply Kd.R_drewN | apply Kd.R_drew)); exact HO_584004.out) hb); have n1_ := Aside0.mk (Kd.S_below (by (with_reducible repeat (first | apply Kd.S_alloc | apply Kd.S_drewN | apply Kd.S_drew)); exact HO592.out) hb); have n2_ := Aside0.mk (blk_below (g := gb583) (o := .cells #[.int .i64 t573, .int .i64 t574, .string t575, .int .i64 t576, .slice Ao18 t577.length co18, .int .i64 t580] 24 (0, 0)) (by (with_reducible repeat (first | refine blk_drewN ?_ _ | refine blk_drew ?_ | refine blk_alloc ?_ _)); exact BK583.out) hb); have n3_ := Aside0.mk (below_step (by repeat (first | (with_reducible first | exact HB.out | apply below_alloc | apply pw_below_drewN | apply below_drew1 | refine below_set ?_ GE583.out) | exact HB.out)) hb); have n4_ := Aside0.mk (hbox); have n5_ := Aside0.mk ((by rw [hg]; exact (below_size (by repeat (first | (with_reducible first | exact HB.out | apply below_alloc | apply pw_below_drewN | apply below_drew1 | refine below_set ?_ GE583.out) | exact HB.out))) : w.heap.size ≤ gb595)); have n6_ := Aside0.mk ((by rw [hg]; exact (below_size (by repeat (first | (with_reducible first | exact HB.out | apply below_alloc | apply pw_below_drewN | apply below_drew1 | refine below_set ?_ GE583.out) | exact HB.out))) : w.heap.size ≤ gb595)); have n7_ := Aside0.mk ((by rw [hg]; exact Nat.ne_of_lt (blk_lt (g := gb583) (o := .cells #[.int .i64 t573, .int .i64 t574, .string t575, .int .i64 t576, .slice Ao18 t577.length co18, .int .i64 t580] 24 (0, 0)) (by (with_reducible repeat (first | refine blk_drewN ?_ _ | refine blk_drew ?_ | refine blk_alloc ?_ _)); exact BK583.out)) : gb583 ≠ gb595)); have n8_ := Aside0.mk ((by rw [hg]; exact Nat.ne_of_gt (blk_lt (g := gb583) (o := .cells #[.int .i64 t573, .int .i64 t574, .string t575, .int .i64 t576, .slice Ao18 t577.length co18, .int .i64 t580] 24 (0, 0)) (by (with_reducible repeat (first | refine blk_drewN ?_ _ | refine blk_drew ?_ | refine blk_alloc ?_ _)); exact BK583.out)) : gb595 ≠ gb583)); clear HO_584004; clear HO592; clear BK583; clear HB; have HO_584004 := n0_; have HO592 := n1_; have BK583 := n2_; have HB := n3_; have BK595 := n4_; have GW595 := n5_; have GE595 := n6_; have NB583_595 := n7_; have NB595_583 := n8_; clear n0_ n1_ n2_ n3_ n4_ n5_ n6_ n7_ n8_; clear hb hbox hg; have hnb36 := NB595_583.out; have hnc36 := NB583_595.out; have hcz37_0 : w35.cell? ⟨gb595, 0, none⟩ = some (.int .i64 0) := (blk_cell BK595.out 0).trans rfl; have hcz37_1 : w35.cell? ⟨gb595, 1, none⟩ = some (.int .i64 0) := (blk_cell BK595.out 1).trans rfl; have hcz37_2 : w35.cell? ⟨gb595, 2, none⟩ = some (.string (⟨#[]⟩ : ByteArray)) := (blk_cell BK595.out 2).trans rfl; have hcz37_3 : w35.cell? ⟨gb595, 3, none⟩ = some (.int .i64 0) := (blk_cell BK595.out 3).trans rfl; have hcz37_4 : w35.cell? ⟨gb595, 4, none⟩ = some (.slice none 0 0) := (blk_cell BK595.out 4).trans rfl; have hfz37_0 := blk_frozen BK595.out 0; have hfz37_1 := blk_frozen BK595.out 1; have hfz37_2 := blk_frozen BK595.out 2; have hfz37_3 := blk_frozen BK595.out 3; have hfz37_4 := blk_frozen BK595.out 4; obtain ⟨Ao38, co38, eo38⟩ := Kd.S_slice HO592.out; subst eo38))
      (try simp only [Act.put, List.setIfInBounds_toArray, List.set_cons_zero, List.set_cons_succ])
      go_cut [] (fun wc => ∃ (kq : Nat), Aside0 (surmiselaw10_CodecOnce.j2 kq a0 a1 = some r) ∧ Aside0 (kq ≤ kj13) ∧ Aside0 (Kd.R (Kd.int .i64) 3 wc w.heap.size (fun _ => True) (.slice Ao18 t577.length co18) t577) ∧ Aside0 (Kd.S k81 81 wc w.heap.size (fun k_ => some k_ ≠ ((.slice Ao18 t577.length co18) : Value).ownBlock) (.slice Ao38 t590.length co38) t590) ∧ Aside0 (wc.heap[gb583]? = some (.cells #[.int .i64 t573, .int .i64 t574, .string t575, .int .i64 t576, (.slice Ao18 t577.length co18), .int .i64 t580] 24 (0, 0))) ∧ Aside0 (wc.heap[gb595]? = some (.cells #[.int .i64 t586, .int .i64 t587, .string t588, .int .i64 t589, (.slice Ao38 t590.length co38)] 27 (0, 0))) ∧ Aside0 (Below w.heap.size w wc))
      case first =>
       have H := HC33.out
       clear HC33
       by_cases c39 : t594 = 0
       ·rw [if_pos c39] at H
        have c39b0 : (t594 == 0) = true := beq_iff_eq.mpr c39
        have c39b1 : (t594 != 0) = false := bne_eq_false_iff_eq.mpr c39
        clear c39
        (first | rw [c39b0] | (simp only [i64_w, i32_w]; rw [c39b0]) | skip)
        replace H := Option.bind_eq_some_iff.mp H
        obtain ⟨⟨t596, t597⟩, A400, H⟩ := H
        replace H : (if t597 = 0 then (if 0 ≤ a1 then (if a1 ≤ t593 then (if t593 ≤ (a0.size : Int) then (if t596.toList = (a0.extract (a1 : Int).toNat (t593 : Int).toNat).toList then (surmiselaw10_CodecOnce.j2 kj13 a0 a1) else (some false)) else (none)) else (none)) else (none)) else (some false)) = some r := H
        have A40 := Aside0.mk A400
        clear A400
        by_cases c41 : t597 = 0
        ·rw [if_pos c41] at H
         have c41b0 : (t597 == 0) = true := beq_iff_eq.mpr c41
         have c41b1 : (t597 != 0) = false := bne_eq_false_iff_eq.mpr c41
         clear c41
         by_cases c42 : 0 ≤ a1
         ·rw [if_pos c42] at H
          have c42b0 := eq_true c42
          have c42b1 : decide (0 ≤ a1) = true := decide_eq_true c42
          clear c42
          by_cases c43 : a1 ≤ t593
          ·rw [if_pos c43] at H
           have c43b0 := eq_true c43
           have c43b1 : decide (a1 ≤ t593) = true := decide_eq_true c43
           clear c43
           by_cases c44 : t593 ≤ (a0.size : Int)
           ·rw [if_pos c44] at H
            have c44b0 := eq_true c44
            have c44b1 : decide (t593 ≤ (a0.size : Int)) = true := decide_eq_true c44
            clear c44
            by_cases c45 : t596.toList = (a0.extract (a1 : Int).toNat (t593 : Int).toNat).toList
            ·rw [if_pos c45] at H
             have c45b0 : (t596.toList == (a0.extract (a1 : Int).toNat (t593 : Int).toNat).toList) = true := beq_iff_eq.mpr c45
             have c45b1 : (t596.toList != (a0.extract (a1 : Int).toNat (t593 : Int).toNat).toList) = false := bne_eq_false_iff_eq.mpr c45
             clear c45
             have H' := Aside0.mk H
             clear H
             have hnb46 := NB595_583.out
             have hnc46 := NB583_595.out
             have hcz47_0 : w35.cell? ⟨gb595, 0, none⟩ = some (.int .i64 0) := (blk_cell BK595.out 0).trans rfl
             have hcz47_1 : w35.cell? ⟨gb595, 1, none⟩ = some (.int .i64 0) := (blk_cell BK595.out 1).trans rfl
             have hcz47_2 : w35.cell? ⟨gb595, 2, none⟩ = some (.string (⟨#[]⟩ : ByteArray)) := (blk_cell BK595.out 2).trans rfl
             have hcz47_3 : w35.cell? ⟨gb595, 3, none⟩ = some (.int .i64 0) := (blk_cell BK595.out 3).trans rfl
             have hcz47_4 : w35.cell? ⟨gb595, 4, none⟩ = some (.slice none 0 0) := (blk_cell BK595.out 4).trans rfl
             have hfz47_0 := blk_frozen BK595.out 0
             have hfz47_1 := blk_frozen BK595.out 1
             have hfz47_2 := blk_frozen BK595.out 2
             have hfz47_3 := blk_frozen BK595.out 3
             have hfz47_4 := blk_frozen BK595.out 4
             go_wp2_with (first | ((with_reducible refine gate_callee (f := 8) rfl ?_); refine goesL_ (some 73) rfl rfl Try.func8 (by kernel_rfl) rfl #[.agg #[.int .i64 t586, .int .i64 t587, .string t588, .int .i64 t589, .slice Ao38 t590.length co38]] rfl (by (try simp only [List.map_toArray, List.map_cons, List.map_nil]); first | done | rfl | (simp only [List.length_drop, List.length_take]; rfl)) ?_; (with_reducible refine (codec_PutRecord.calls kj13 t586 t587 t588 t589 _ _ t590 t596 t597 _ ?side1 ?side2 A40.out).mono ?_); (case side1 => refine (Kd.S_reads' (e := 81) (base := w.heap.size) (ok := fun k_ => (True ∧ some k_ ≠ (.slice Ao18 t577.length co18 : Value).ownBlock)) (n := t590.length) (c := co38) ?_).2.2; exact (by (with_reducible repeat (first | apply Kd.S_alloc | apply Kd.S_drewN | apply Kd.S_drew)); exact (Kd.S_mono (Kd.S_far (p := ⟨gb595, 4, none⟩) (Kd.S_far (p := ⟨gb595, 3, none⟩) (Kd.S_far (p := ⟨gb595, 2, none⟩) (Kd.S_far (p := ⟨gb595, 1, none⟩) (Kd.S_far (p := ⟨gb595, 0, none⟩) (Kd.S_types HO592.out BK595.out (by decide)) (fun _ hk => hk.2) (.int .i64 t586)) (fun _ hk => hk.2) (.int .i64 t587)) (fun _ hk => hk.2) (.string t588)) (fun _ hk => hk.2) (.int .i64 t589)) (fun _ hk => hk.2) (.slice Ao38 t590.length co38)) (fun _ h_ => h_.1)))); (case side2 => exact (Kd.S_reads' HO592.out).2.1); rintro e w48 ⟨rfl, hb⟩; refine ⟨_, rfl, ?_⟩; have n0_ := Aside0.mk (Kd.R_below (by (with_reducible repeat (first | apply Kd.R_alloc | apply Kd.R_drewN | apply Kd.R_drew)); exact (Kd.R_mono (Kd.R_far (p := ⟨gb595, 4, none⟩) (Kd.R_far (p := ⟨gb595, 3, none⟩) (Kd.R_far (p := ⟨gb595, 2, none⟩) (Kd.R_far (p := ⟨gb595, 1, none⟩) (Kd.R_far (p := ⟨gb595, 0, none⟩) (Kd.R_types HO_584004.out BK595.out (by decide)) (fun _ hk => hk.2) (.int .i64 t586)) (fun _ hk => hk.2) (.int .i64 t587)) (fun _ hk => hk.2) (.string t588)) (fun _ hk => hk.2) (.int .i64 t589)) (fun _ hk => hk.2) (.slice Ao38 t590.length co38)) (fun _ h_ => h_.1))) hb); have n1_ := Aside0.mk (Kd.S_below (by (with_reducible repeat (first | apply Kd.S_alloc | apply Kd.S_drewN | apply Kd.S_drew)); exact (Kd.S_mono (Kd.S_far (p := ⟨gb595, 4, none⟩) (Kd.S_far (p := ⟨gb595, 3, none⟩) (Kd.S_far (p := ⟨gb595, 2, none⟩) (Kd.S_far (p := ⟨gb595, 1, none⟩) (Kd.S_far (p := ⟨gb595, 0, none⟩) (Kd.S_types HO592.out BK595.out (by decide)) (fun _ hk => hk.2) (.int .i64 t586)) (fun _ hk => hk.2) (.int .i64 t587)) (fun _ hk => hk.2) (.string t588)) (fun _ hk => hk.2) (.int .i64 t589)) (fun _ hk => hk.2) (.slice Ao38 t590.length co38)) (fun _ h_ => h_.1))) hb); have n2_ := Aside0.mk (blk_below (g := gb583) (o := .cells #[.int .i64 t573, .int .i64 t574, .string t575, .int .i64 t576, .slice Ao18 t577.length co18, .int .i64 t580] 24 (0, 0)) (by (with_reducible repeat (first | refine blk_drewN ?_ _ | refine blk_drew ?_ | refine blk_alloc ?_ _)); refine blk_far ?_ NB583_595.out _; (with_reducible repeat (first | refine blk_drewN ?_ _ | refine blk_drew ?_ | refine blk_alloc ?_ _)); refine blk_far ?_ NB583_595.out _; (with_reducible repeat (first | refine blk_drewN ?_ _ | refine blk_drew ?_ | refine blk_alloc ?_ _)); refine blk_far ?_ NB583_595.out _; (with_reducible repeat (first | refine blk_drewN ?_ _ | refine blk_drew ?_ | refine blk_alloc ?_ _)); refine blk_far ?_ NB583_595.out _; (with_reducible repeat (first | refine blk_drewN ?_ _ | refine blk_drew ?_ | refine blk_alloc ?_ _)); refine blk_far ?_ NB583_595.out _; (with_reducible repeat (first | refine blk_drewN ?_ _ | refine blk_drew ?_ | refine blk_alloc ?_ _)); exact BK583.out) hb); have n3_ := Aside0.mk (blk_below (g := gb595) (o := .cells #[.int .i64 t586, .int .i64 t587, .string t588, .int .i64 t589, .slice Ao38 t590.length co38] 27 (0, 0)) (by (with_reducible repeat (first | refine blk_drewN ?_ _ | refine blk_drew ?_ | refine blk_alloc ?_ _)); refine blk_put (cs := #[.int .i64 t586, .int .i64 t587, .string t588, .int .i64 t589, .slice none 0 0]) ?_ 4 _ rfl; (with_reducible repeat (first | refine blk_drewN ?_ _ | refine blk_drew ?_ | refine blk_alloc ?_ _)); refine blk_put (cs := #[.int .i64 t586, .int .i64 t587, .string t588, .int .i64 0, .slice none 0 0]) ?_ 3 _ rfl; (with_reducible repeat (first | refine blk_drewN ?_ _ | refine blk_drew ?_ | refine blk_alloc ?_ _)); refine blk_put (cs := #[.int .i64 t586, .int .i64 t587, .string (⟨#[]⟩ : ByteArray), .int .i64 0, .slice none 0 0]) ?_ 2 _ rfl; (with_reducible repeat (first | refine blk_drewN ?_ _ | refine blk_drew ?_ | refine blk_alloc ?_ _)); refine blk_put (cs := #[.int .i64 t586, .int .i64 0, .string (⟨#[]⟩ : ByteArray), .int .i64 0, .slice none 0 0]) ?_ 1 _ rfl; (with_reducible repeat (first | refine blk_drewN ?_ _ | refine blk_drew ?_ | refine blk_alloc ?_ _)); refine blk_put (cs := #[.int .i64 0, .int .i64 0, .string (⟨#[]⟩ : ByteArray), .int .i64 0, .slice none 0 0]) ?_ 0 _ rfl; (with_reducible repeat (first | refine blk_drewN ?_ _ | refine blk_drew ?_ | refine blk_alloc ?_ _)); exact BK595.out) hb); have n4_ := Aside0.mk (below_step (by repeat (first | (with_reducible first | exact HB.out | apply below_alloc | apply pw_below_drewN | apply below_drew1 | refine below_set ?_ GE583.out | refine below_set ?_ GE595.out) | exact HB.out)) hb); clear HO_584004; clear HO592; clear BK583; clear BK595; clear HB; have HO_584004 := n0_; have HO592 := n1_; have BK583 := n2_; have BK595 := n3_; have HB := n4_; clear n0_ n1_ n2_ n3_ n4_; (try clear hb); (try clear hb2); (try clear hk); (try clear hi)))
             go_meet
             case rel => exact ⟨_, H', ⟨by have := HJ2.out; have := HJ13.out; first | omega | exact Nat.le_refl _⟩, ⟨by (with_reducible repeat (first | apply Kd.R_alloc | apply Kd.R_drewN | apply Kd.R_drew)); exact HO_584004.out⟩, ⟨by (with_reducible repeat (first | apply Kd.S_alloc | apply Kd.S_drewN | apply Kd.S_drew)); exact Kd.S_mono HO592.out (fun _ hk => hk.2)⟩, ⟨by (with_reducible repeat (first | refine blk_drewN ?_ _ | refine blk_drew ?_ | refine blk_alloc ?_ _)); exact BK583.out⟩, ⟨by (with_reducible repeat (first | refine blk_drewN ?_ _ | refine blk_drew ?_ | refine blk_alloc ?_ _)); exact BK595.out⟩, ⟨by repeat (first | (with_reducible first | exact HB.out | apply below_alloc | apply pw_below_drewN | apply below_drew1 | refine below_set ?_ GE583.out | refine below_set ?_ GE595.out) | exact HB.out)⟩⟩
            ·rw [if_neg c45] at H
             have c45b0 : (t596.toList == (a0.extract (a1 : Int).toNat (t593 : Int).toNat).toList) = false := beq_eq_false_iff_ne.mpr c45
             have c45b1 : (t596.toList != (a0.extract (a1 : Int).toNat (t593 : Int).toNat).toList) = true := bne_iff_ne.mpr c45
             obtain rfl := Option.some.inj H
             have hnb49 := NB595_583.out
             have hnc49 := NB583_595.out
             have hcz50_0 : w35.cell? ⟨gb595, 0, none⟩ = some (.int .i64 0) := (blk_cell BK595.out 0).trans rfl
             have hcz50_1 : w35.cell? ⟨gb595, 1, none⟩ = some (.int .i64 0) := (blk_cell BK595.out 1).trans rfl
             have hcz50_2 : w35.cell? ⟨gb595, 2, none⟩ = some (.string (⟨#[]⟩ : ByteArray)) := (blk_cell BK595.out 2).trans rfl
             have hcz50_3 : w35.cell? ⟨gb595, 3, none⟩ = some (.int .i64 0) := (blk_cell BK595.out 3).trans rfl
             have hcz50_4 : w35.cell? ⟨gb595, 4, none⟩ = some (.slice none 0 0) := (blk_cell BK595.out 4).trans rfl
             have hfz50_0 := blk_frozen BK595.out 0
             have hfz50_1 := blk_frozen BK595.out 1
             have hfz50_2 := blk_frozen BK595.out 2
             have hfz50_3 := blk_frozen BK595.out 3
             have hfz50_4 := blk_frozen BK595.out 4
             go_wp2_with (first | ((with_reducible refine gate_callee (f := 8) rfl ?_); refine goesL_ (some 73) rfl rfl Try.func8 (by kernel_rfl) rfl #[.agg #[.int .i64 t586, .int .i64 t587, .string t588, .int .i64 t589, .slice Ao38 t590.length co38]] rfl (by (try simp only [List.map_toArray, List.map_cons, List.map_nil]); first | done | rfl | (simp only [List.length_drop, List.length_take]; rfl)) ?_; (with_reducible refine (codec_PutRecord.calls kj13 t586 t587 t588 t589 _ _ t590 t596 t597 _ ?side1 ?side2 A40.out).mono ?_); (case side1 => refine (Kd.S_reads' (e := 81) (base := w.heap.size) (ok := fun k_ => (True ∧ some k_ ≠ (.slice Ao18 t577.length co18 : Value).ownBlock)) (n := t590.length) (c := co38) ?_).2.2; exact (by (with_reducible repeat (first | apply Kd.S_alloc | apply Kd.S_drewN | apply Kd.S_drew)); exact (Kd.S_mono (Kd.S_far (p := ⟨gb595, 4, none⟩) (Kd.S_far (p := ⟨gb595, 3, none⟩) (Kd.S_far (p := ⟨gb595, 2, none⟩) (Kd.S_far (p := ⟨gb595, 1, none⟩) (Kd.S_far (p := ⟨gb595, 0, none⟩) (Kd.S_types HO592.out BK595.out (by decide)) (fun _ hk => hk.2) (.int .i64 t586)) (fun _ hk => hk.2) (.int .i64 t587)) (fun _ hk => hk.2) (.string t588)) (fun _ hk => hk.2) (.int .i64 t589)) (fun _ hk => hk.2) (.slice Ao38 t590.length co38)) (fun _ h_ => h_.1)))); (case side2 => exact (Kd.S_reads' HO592.out).2.1); rintro e w51 ⟨rfl, hb⟩; refine ⟨_, rfl, ?_⟩; have n0_ := Aside0.mk (Kd.R_below (by (with_reducible repeat (first | apply Kd.R_alloc | apply Kd.R_drewN | apply Kd.R_drew)); exact (Kd.R_mono (Kd.R_far (p := ⟨gb595, 4, none⟩) (Kd.R_far (p := ⟨gb595, 3, none⟩) (Kd.R_far (p := ⟨gb595, 2, none⟩) (Kd.R_far (p := ⟨gb595, 1, none⟩) (Kd.R_far (p := ⟨gb595, 0, none⟩) (Kd.R_types HO_584004.out BK595.out (by decide)) (fun _ hk => hk.2) (.int .i64 t586)) (fun _ hk => hk.2) (.int .i64 t587)) (fun _ hk => hk.2) (.string t588)) (fun _ hk => hk.2) (.int .i64 t589)) (fun _ hk => hk.2) (.slice Ao38 t590.length co38)) (fun _ h_ => h_.1))) hb); have n1_ := Aside0.mk (Kd.S_below (by (with_reducible repeat (first | apply Kd.S_alloc | apply Kd.S_drewN | apply Kd.S_drew)); exact (Kd.S_mono (Kd.S_far (p := ⟨gb595, 4, none⟩) (Kd.S_far (p := ⟨gb595, 3, none⟩) (Kd.S_far (p := ⟨gb595, 2, none⟩) (Kd.S_far (p := ⟨gb595, 1, none⟩) (Kd.S_far (p := ⟨gb595, 0, none⟩) (Kd.S_types HO592.out BK595.out (by decide)) (fun _ hk => hk.2) (.int .i64 t586)) (fun _ hk => hk.2) (.int .i64 t587)) (fun _ hk => hk.2) (.string t588)) (fun _ hk => hk.2) (.int .i64 t589)) (fun _ hk => hk.2) (.slice Ao38 t590.length co38)) (fun _ h_ => h_.1))) hb); have n2_ := Aside0.mk (blk_below (g := gb583) (o := .cells #[.int .i64 t573, .int .i64 t574, .string t575, .int .i64 t576, .slice Ao18 t577.length co18, .int .i64 t580] 24 (0, 0)) (by (with_reducible repeat (first | refine blk_drewN ?_ _ | refine blk_drew ?_ | refine blk_alloc ?_ _)); refine blk_far ?_ NB583_595.out _; (with_reducible repeat (first | refine blk_drewN ?_ _ | refine blk_drew ?_ | refine blk_alloc ?_ _)); refine blk_far ?_ NB583_595.out _; (with_reducible repeat (first | refine blk_drewN ?_ _ | refine blk_drew ?_ | refine blk_alloc ?_ _)); refine blk_far ?_ NB583_595.out _; (with_reducible repeat (first | refine blk_drewN ?_ _ | refine blk_drew ?_ | refine blk_alloc ?_ _)); refine blk_far ?_ NB583_595.out _; (with_reducible repeat (first | refine blk_drewN ?_ _ | refine blk_drew ?_ | refine blk_alloc ?_ _)); refine blk_far ?_ NB583_595.out _; (with_reducible repeat (first | refine blk_drewN ?_ _ | refine blk_drew ?_ | refine blk_alloc ?_ _)); exact BK583.out) hb); have n3_ := Aside0.mk (blk_below (g := gb595) (o := .cells #[.int .i64 t586, .int .i64 t587, .string t588, .int .i64 t589, .slice Ao38 t590.length co38] 27 (0, 0)) (by (with_reducible repeat (first | refine blk_drewN ?_ _ | refine blk_drew ?_ | refine blk_alloc ?_ _)); refine blk_put (cs := #[.int .i64 t586, .int .i64 t587, .string t588, .int .i64 t589, .slice none 0 0]) ?_ 4 _ rfl; (with_reducible repeat (first | refine blk_drewN ?_ _ | refine blk_drew ?_ | refine blk_alloc ?_ _)); refine blk_put (cs := #[.int .i64 t586, .int .i64 t587, .string t588, .int .i64 0, .slice none 0 0]) ?_ 3 _ rfl; (with_reducible repeat (first | refine blk_drewN ?_ _ | refine blk_drew ?_ | refine blk_alloc ?_ _)); refine blk_put (cs := #[.int .i64 t586, .int .i64 t587, .string (⟨#[]⟩ : ByteArray), .int .i64 0, .slice none 0 0]) ?_ 2 _ rfl; (with_reducible repeat (first | refine blk_drewN ?_ _ | refine blk_drew ?_ | refine blk_alloc ?_ _)); refine blk_put (cs := #[.int .i64 t586, .int .i64 0, .string (⟨#[]⟩ : ByteArray), .int .i64 0, .slice none 0 0]) ?_ 1 _ rfl; (with_reducible repeat (first | refine blk_drewN ?_ _ | refine blk_drew ?_ | refine blk_alloc ?_ _)); refine blk_put (cs := #[.int .i64 0, .int .i64 0, .string (⟨#[]⟩ : ByteArray), .int .i64 0, .slice none 0 0]) ?_ 0 _ rfl; (with_reducible repeat (first | refine blk_drewN ?_ _ | refine blk_drew ?_ | refine blk_alloc ?_ _)); exact BK595.out) hb); have n4_ := Aside0.mk (below_step (by repeat (first | (with_reducible first | exact HB.out | apply below_alloc | apply pw_below_drewN | apply below_drew1 | refine below_set ?_ GE583.out | refine below_set ?_ GE595.out) | exact HB.out)) hb); clear HO_584004; clear HO592; clear BK583; clear BK595; clear HB; have HO_584004 := n0_; have HO592 := n1_; have BK583 := n2_; have BK595 := n3_; have HB := n4_; clear n0_ n1_ n2_ n3_ n4_; (try clear hb); (try clear hb2); (try clear hk); (try clear hi)))
             go_ret
             exact ⟨by first | rfl | (simp [errW_none, errW_some] <;> rfl) | (simp [*, errW_none, errW_some] <;> rfl), by repeat (first | (with_reducible first | exact HB.out | apply below_alloc | apply pw_below_drewN | apply below_drew1 | refine below_set ?_ GE583.out | refine below_set ?_ GE595.out) | exact HB.out)⟩
           ·rw [if_neg c44] at H
            exact absurd H (by simp)
          ·rw [if_neg c43] at H
           exact absurd H (by simp)
         ·rw [if_neg c42] at H
          exact absurd H (by simp)
        ·rw [if_neg c41] at H
         have c41b0 : (t597 == 0) = false := beq_eq_false_iff_ne.mpr c41
         have c41b1 : (t597 != 0) = true := bne_iff_ne.mpr c41
         obtain rfl := Option.some.inj H
         have hnb52 := NB595_583.out
         have hnc52 := NB583_595.out
         have hcz53_0 : w35.cell? ⟨gb595, 0, none⟩ = some (.int .i64 0) := (blk_cell BK595.out 0).trans rfl
         have hcz53_1 : w35.cell? ⟨gb595, 1, none⟩ = some (.int .i64 0) := (blk_cell BK595.out 1).trans rfl
         have hcz53_2 : w35.cell? ⟨gb595, 2, none⟩ = some (.string (⟨#[]⟩ : ByteArray)) := (blk_cell BK595.out 2).trans rfl
         have hcz53_3 : w35.cell? ⟨gb595, 3, none⟩ = some (.int .i64 0) := (blk_cell BK595.out 3).trans rfl
         have hcz53_4 : w35.cell? ⟨gb595, 4, none⟩ = some (.slice none 0 0) := (blk_cell BK595.out 4).trans rfl
         have hfz53_0 := blk_frozen BK595.out 0
         have hfz53_1 := blk_frozen BK595.out 1
         have hfz53_2 := blk_frozen BK595.out 2
         have hfz53_3 := blk_frozen BK595.out 3
         have hfz53_4 := blk_frozen BK595.out 4
         go_wp2_with (first | ((with_reducible refine gate_callee (f := 8) rfl ?_); refine goesL_ (some 73) rfl rfl Try.func8 (by kernel_rfl) rfl #[.agg #[.int .i64 t586, .int .i64 t587, .string t588, .int .i64 t589, .slice Ao38 t590.length co38]] rfl (by (try simp only [List.map_toArray, List.map_cons, List.map_nil]); first | done | rfl | (simp only [List.length_drop, List.length_take]; rfl)) ?_; (with_reducible refine (codec_PutRecord.calls kj13 t586 t587 t588 t589 _ _ t590 t596 t597 _ ?side1 ?side2 A40.out).mono ?_); (case side1 => refine (Kd.S_reads' (e := 81) (base := w.heap.size) (ok := fun k_ => (True ∧ some k_ ≠ (.slice Ao18 t577.length co18 : Value).ownBlock)) (n := t590.length) (c := co38) ?_).2.2; exact (by (with_reducible repeat (first | apply Kd.S_alloc | apply Kd.S_drewN | apply Kd.S_drew)); exact (Kd.S_mono (Kd.S_far (p := ⟨gb595, 4, none⟩) (Kd.S_far (p := ⟨gb595, 3, none⟩) (Kd.S_far (p := ⟨gb595, 2, none⟩) (Kd.S_far (p := ⟨gb595, 1, none⟩) (Kd.S_far (p := ⟨gb595, 0, none⟩) (Kd.S_types HO592.out BK595.out (by decide)) (fun _ hk => hk.2) (.int .i64 t586)) (fun _ hk => hk.2) (.int .i64 t587)) (fun _ hk => hk.2) (.string t588)) (fun _ hk => hk.2) (.int .i64 t589)) (fun _ hk => hk.2) (.slice Ao38 t590.length co38)) (fun _ h_ => h_.1)))); (case side2 => exact (Kd.S_reads' HO592.out).2.1); rintro e w54 ⟨rfl, hb⟩; refine ⟨_, rfl, ?_⟩; have n0_ := Aside0.mk (Kd.R_below (by (with_reducible repeat (first | apply Kd.R_alloc | apply Kd.R_drewN | apply Kd.R_drew)); exact (Kd.R_mono (Kd.R_far (p := ⟨gb595, 4, none⟩) (Kd.R_far (p := ⟨gb595, 3, none⟩) (Kd.R_far (p := ⟨gb595, 2, none⟩) (Kd.R_far (p := ⟨gb595, 1, none⟩) (Kd.R_far (p := ⟨gb595, 0, none⟩) (Kd.R_types HO_584004.out BK595.out (by decide)) (fun _ hk => hk.2) (.int .i64 t586)) (fun _ hk => hk.2) (.int .i64 t587)) (fun _ hk => hk.2) (.string t588)) (fun _ hk => hk.2) (.int .i64 t589)) (fun _ hk => hk.2) (.slice Ao38 t590.length co38)) (fun _ h_ => h_.1))) hb); have n1_ := Aside0.mk (Kd.S_below (by (with_reducible repeat (first | apply Kd.S_alloc | apply Kd.S_drewN | apply Kd.S_drew)); exact (Kd.S_mono (Kd.S_far (p := ⟨gb595, 4, none⟩) (Kd.S_far (p := ⟨gb595, 3, none⟩) (Kd.S_far (p := ⟨gb595, 2, none⟩) (Kd.S_far (p := ⟨gb595, 1, none⟩) (Kd.S_far (p := ⟨gb595, 0, none⟩) (Kd.S_types HO592.out BK595.out (by decide)) (fun _ hk => hk.2) (.int .i64 t586)) (fun _ hk => hk.2) (.int .i64 t587)) (fun _ hk => hk.2) (.string t588)) (fun _ hk => hk.2) (.int .i64 t589)) (fun _ hk => hk.2) (.slice Ao38 t590.length co38)) (fun _ h_ => h_.1))) hb); have n2_ := Aside0.mk (blk_below (g := gb583) (o := .cells #[.int .i64 t573, .int .i64 t574, .string t575, .int .i64 t576, .slice Ao18 t577.length co18, .int .i64 t580] 24 (0, 0)) (by (with_reducible repeat (first | refine blk_drewN ?_ _ | refine blk_drew ?_ | refine blk_alloc ?_ _)); refine blk_far ?_ NB583_595.out _; (with_reducible repeat (first | refine blk_drewN ?_ _ | refine blk_drew ?_ | refine blk_alloc ?_ _)); refine blk_far ?_ NB583_595.out _; (with_reducible repeat (first | refine blk_drewN ?_ _ | refine blk_drew ?_ | refine blk_alloc ?_ _)); refine blk_far ?_ NB583_595.out _; (with_reducible repeat (first | refine blk_drewN ?_ _ | refine blk_drew ?_ | refine blk_alloc ?_ _)); refine blk_far ?_ NB583_595.out _; (with_reducible repeat (first | refine blk_drewN ?_ _ | refine blk_drew ?_ | refine blk_alloc ?_ _)); refine blk_far ?_ NB583_595.out _; (with_reducible repeat (first | refine blk_drewN ?_ _ | refine blk_drew ?_ | refine blk_alloc ?_ _)); exact BK583.out) hb); have n3_ := Aside0.mk (blk_below (g := gb595) (o := .cells #[.int .i64 t586, .int .i64 t587, .string t588, .int .i64 t589, .slice Ao38 t590.length co38] 27 (0, 0)) (by (with_reducible repeat (first | refine blk_drewN ?_ _ | refine blk_drew ?_ | refine blk_alloc ?_ _)); refine blk_put (cs := #[.int .i64 t586, .int .i64 t587, .string t588, .int .i64 t589, .slice none 0 0]) ?_ 4 _ rfl; (with_reducible repeat (first | refine blk_drewN ?_ _ | refine blk_drew ?_ | refine blk_alloc ?_ _)); refine blk_put (cs := #[.int .i64 t586, .int .i64 t587, .string t588, .int .i64 0, .slice none 0 0]) ?_ 3 _ rfl; (with_reducible repeat (first | refine blk_drewN ?_ _ | refine blk_drew ?_ | refine blk_alloc ?_ _)); refine blk_put (cs := #[.int .i64 t586, .int .i64 t587, .string (⟨#[]⟩ : ByteArray), .int .i64 0, .slice none 0 0]) ?_ 2 _ rfl; (with_reducible repeat (first | refine blk_drewN ?_ _ | refine blk_drew ?_ | refine blk_alloc ?_ _)); refine blk_put (cs := #[.int .i64 t586, .int .i64 0, .string (⟨#[]⟩ : ByteArray), .int .i64 0, .slice none 0 0]) ?_ 1 _ rfl; (with_reducible repeat (first | refine blk_drewN ?_ _ | refine blk_drew ?_ | refine blk_alloc ?_ _)); refine blk_put (cs := #[.int .i64 0, .int .i64 0, .string (⟨#[]⟩ : ByteArray), .int .i64 0, .slice none 0 0]) ?_ 0 _ rfl; (with_reducible repeat (first | refine blk_drewN ?_ _ | refine blk_drew ?_ | refine blk_alloc ?_ _)); exact BK595.out) hb); have n4_ := Aside0.mk (below_step (by repeat (first | (with_reducible first | exact HB.out | apply below_alloc | apply pw_below_drewN | apply below_drew1 | refine below_set ?_ GE583.out | refine below_set ?_ GE595.out) | exact HB.out)) hb); clear HO_584004; clear HO592; clear BK583; clear BK595; clear HB; have HO_584004 := n0_; have HO592 := n1_; have BK583 := n2_; have BK595 := n3_; have HB := n4_; clear n0_ n1_ n2_ n3_ n4_; (try clear hb); (try clear hb2); (try clear hk); (try clear hi)))
         go_ret
         exact ⟨by first | rfl | (simp [errW_none, errW_some] <;> rfl) | (simp [*, errW_none, errW_some] <;> rfl), by repeat (first | (with_reducible first | exact HB.out | apply below_alloc | apply pw_below_drewN | apply below_drew1 | refine below_set ?_ GE583.out | refine below_set ?_ GE595.out) | exact HB.out)⟩
       ·rw [if_neg c39] at H
        have c39b0 : (t594 == 0) = false := beq_eq_false_iff_ne.mpr c39
        have c39b1 : (t594 != 0) = true := bne_iff_ne.mpr c39
        (first | rw [c39b0] | (simp only [i64_w, i32_w]; rw [c39b0]) | skip)
        have H' := Aside0.mk H
        clear H
        go_wp2
        go_meet
        case rel => exact ⟨_, H', ⟨by have := HJ2.out; have := HJ13.out; first | omega | exact Nat.le_refl _⟩, ⟨by (with_reducible repeat (first | apply Kd.R_alloc | apply Kd.R_drewN | apply Kd.R_drew)); exact Kd.R_mono (Kd.R_far (p := ⟨gb595, 4, none⟩) (Kd.R_far (p := ⟨gb595, 3, none⟩) (Kd.R_far (p := ⟨gb595, 2, none⟩) (Kd.R_far (p := ⟨gb595, 1, none⟩) (Kd.R_far (p := ⟨gb595, 0, none⟩) (Kd.R_types HO_584004.out BK595.out (by decide)) (fun _ hk => hk.2) (.int .i64 t586)) (fun _ hk => hk.2) (.int .i64 t587)) (fun _ hk => hk.2) (.string t588)) (fun _ hk => hk.2) (.int .i64 t589)) (fun _ hk => hk.2) (.slice Ao38 t590.length co38)) (fun _ hk => trivial)⟩, ⟨by (with_reducible repeat (first | apply Kd.S_alloc | apply Kd.S_drewN | apply Kd.S_drew)); exact Kd.S_mono (Kd.S_far (p := ⟨gb595, 4, none⟩) (Kd.S_far (p := ⟨gb595, 3, none⟩) (Kd.S_far (p := ⟨gb595, 2, none⟩) (Kd.S_far (p := ⟨gb595, 1, none⟩) (Kd.S_far (p := ⟨gb595, 0, none⟩) (Kd.S_types HO592.out BK595.out (by decide)) (fun _ hk => hk.2) (.int .i64 t586)) (fun _ hk => hk.2) (.int .i64 t587)) (fun _ hk => hk.2) (.string t588)) (fun _ hk => hk.2) (.int .i64 t589)) (fun _ hk => hk.2) (.slice Ao38 t590.length co38)) (fun _ hk => hk.1.2)⟩, ⟨by (with_reducible repeat (first | refine blk_drewN ?_ _ | refine blk_drew ?_ | refine blk_alloc ?_ _)); refine blk_far ?_ NB583_595.out _; (with_reducible repeat (first | refine blk_drewN ?_ _ | refine blk_drew ?_ | refine blk_alloc ?_ _)); refine blk_far ?_ NB583_595.out _; (with_reducible repeat (first | refine blk_drewN ?_ _ | refine blk_drew ?_ | refine blk_alloc ?_ _)); refine blk_far ?_ NB583_595.out _; (with_reducible repeat (first | refine blk_drewN ?_ _ | refine blk_drew ?_ | refine blk_alloc ?_ _)); refine blk_far ?_ NB583_595.out _; (with_reducible repeat (first | refine blk_drewN ?_ _ | refine blk_drew ?_ | refine blk_alloc ?_ _)); refine blk_far ?_ NB583_595.out _; (with_reducible repeat (first | refine blk_drewN ?_ _ | refine blk_drew ?_ | refine blk_alloc ?_ _)); exact BK583.out⟩, ⟨by (with_reducible repeat (first | refine blk_drewN ?_ _ | refine blk_drew ?_ | refine blk_alloc ?_ _)); refine blk_put (cs := #[.int .i64 t586, .int .i64 t587, .string t588, .int .i64 t589, .slice none 0 0]) ?_ 4 _ rfl; (with_reducible repeat (first | refine blk_drewN ?_ _ | refine blk_drew ?_ | refine blk_alloc ?_ _)); refine blk_put (cs := #[.int .i64 t586, .int .i64 t587, .string t588, .int .i64 0, .slice none 0 0]) ?_ 3 _ rfl; (with_reducible repeat (first | refine blk_drewN ?_ _ | refine blk_drew ?_ | refine blk_alloc ?_ _)); refine blk_put (cs := #[.int .i64 t586, .int .i64 t587, .string (⟨#[]⟩ : ByteArray), .int .i64 0, .slice none 0 0]) ?_ 2 _ rfl; (with_reducible repeat (first | refine blk_drewN ?_ _ | refine blk_drew ?_ | refine blk_alloc ?_ _)); refine blk_put (cs := #[.int .i64 t586, .int .i64 0, .string (⟨#[]⟩ : ByteArray), .int .i64 0, .slice none 0 0]) ?_ 1 _ rfl; (with_reducible repeat (first | refine blk_drewN ?_ _ | refine blk_drew ?_ | refine blk_alloc ?_ _)); refine blk_put (cs := #[.int .i64 0, .int .i64 0, .string (⟨#[]⟩ : ByteArray), .int .i64 0, .slice none 0 0]) ?_ 0 _ rfl; (with_reducible repeat (first | refine blk_drewN ?_ _ | refine blk_drew ?_ | refine blk_alloc ?_ _)); exact BK595.out⟩, ⟨by repeat (first | (with_reducible first | exact HB.out | apply below_alloc | apply pw_below_drewN | apply below_drew1 | refine below_set ?_ GE583.out | refine below_set ?_ GE595.out) | exact HB.out)⟩⟩
      case rest =>
       clear HC33
       try clear c1
       try clear c2
       try clear p2
       try clear c3
       try clear c4
       try clear c5
       try clear c6
       try clear c6b0
       try clear c7
       try clear c8
       try clear c10
       try clear c11
       try clear c19
       try clear c19b0
       try clear c19b1
       try clear c21
       try clear c21b0
       try clear c21b1
       try clear c22
       try clear c22b0
       try clear c22b1
       try clear c23
       try clear c23b0
       try clear c23b1
       try clear c24
       try clear c24b0
       try clear c24b1
       try clear c25
       try clear c25b0
       try clear c25b1
       try clear c28
       try clear c29
       try clear c36
       try clear c39
       try clear c39b0
       try clear c39b1
       try clear c41
       try clear c41b0
       try clear c41b1
       try clear c42
       try clear c42b0
       try clear c42b1
       try clear c43
       try clear c43b0
       try clear c43b1
       try clear c44
       try clear c44b0
       try clear c44b1
       try clear c45
       try clear c45b0
       try clear c45b1
       try clear c46
       try clear c49
       try clear c52
       try clear hcz17_0
       try clear hcz17_1
       try clear hcz17_2
       try clear hcz17_3
       try clear hcz17_4
       try clear hcz17_5
       try clear hcz26_0
       try clear hcz26_1
       try clear hcz26_2
       try clear hcz26_3
       try clear hcz26_4
       try clear hcz26_5
       try clear hcz28_0
       try clear hcz28_1
       try clear hcz28_2
       try clear hcz28_3
       try clear hcz28_4
       try clear hcz28_5
       try clear hcz30_0
       try clear hcz30_1
       try clear hcz30_2
       try clear hcz30_3
       try clear hcz30_4
       try clear hcz30_5
       try clear hcz37_0
       try clear hcz37_1
       try clear hcz37_2
       try clear hcz37_3
       try clear hcz37_4
       try clear hcz47_0
       try clear hcz47_1
       try clear hcz47_2
       try clear hcz47_3
       try clear hcz47_4
       try clear hcz50_0
       try clear hcz50_1
       try clear hcz50_2
       try clear hcz50_3
       try clear hcz50_4
       try clear hcz53_0
       try clear hcz53_1
       try clear hcz53_2
       try clear hcz53_3
       try clear hcz53_4
       try clear hfz17_0
       try clear hfz17_1
       try clear hfz17_2
       try clear hfz17_3
       try clear hfz17_4
       try clear hfz17_5
       try clear hfz26_0
       try clear hfz26_1
       try clear hfz26_2
       try clear hfz26_3
       try clear hfz26_4
       try clear hfz26_5
       try clear hfz28_0
       try clear hfz28_1
       try clear hfz28_2
       try clear hfz28_3
       try clear hfz28_4
       try clear hfz28_5
       try clear hfz30_0
       try clear hfz30_1
       try clear hfz30_2
       try clear hfz30_3
       try clear hfz30_4
       try clear hfz30_5
       try clear hfz37_0
       try clear hfz37_1
       try clear hfz37_2
       try clear hfz37_3
       try clear hfz37_4
       try clear hfz47_0
       try clear hfz47_1
       try clear hfz47_2
       try clear hfz47_3
       try clear hfz47_4
       try clear hfz50_0
       try clear hfz50_1
       try clear hfz50_2
       try clear hfz50_3
       try clear hfz50_4
       try clear hfz53_0
       try clear hfz53_1
       try clear hfz53_2
       try clear hfz53_3
       try clear hfz53_4
       try clear p2
       obtain ⟨kq, HA, HJ32, HO_584004, HO_596004, BK583, BK595, HB⟩ := hcut
       cases kq with
       | zero => exact absurd HA.out (by simp [surmiselaw10_CodecOnce.j2])
       | succ kj32 =>
        have H := HA.out
        clear HA
        simp only [surmiselaw10_CodecOnce.j2] at H
        replace H := Option.bind_eq_some_iff.mp H
        obtain ⟨⟨t598, t599, t600⟩, A550, H⟩ := H
        replace H : (if t600 = 0 then ((codec_PutItems.f kj32 t598).bind fun bt603 => (if bt603.2 = 0 then (if 0 ≤ a1 then (if a1 ≤ t599 then (if t599 ≤ (a0.size : Int) then (if bt603.1.toList = (a0.extract (a1 : Int).toNat (t599 : Int).toNat).toList then (surmiselaw10_CodecOnce.j3 kj32 a0 a1) else (some false)) else (none)) else (none)) else (none)) else (some false))) else (surmiselaw10_CodecOnce.j3 kj32 a0 a1)) = some r := H
        have A55 := Aside0.mk A550
        clear A550
        have HC56 := Aside0.mk H
        clear H
        go_upto_if 94 with (first | ((with_reducible refine gate_callee (f := 30) rfl ?_); refine goesL_ (some 89) rfl rfl Try.func30 (by kernel_rfl) rfl #[.string a0, .int .i64 a1] rfl (by (try simp only [List.map_toArray, List.map_cons, List.map_nil]); first | done | rfl | (simp only [List.length_drop, List.length_take]; rfl)) ?_; (with_reducible refine (codec_ReadItems.calls kj32 a0 a1 t598 t599 t600 _ A55.out).mono ?_); rintro e w57 ⟨v601, rfl, ho0, hb⟩; refine ⟨_, rfl, ?_⟩; have n0_ := Aside0.mk (Kd.R_below (by (with_reducible repeat (first | apply Kd.R_alloc | apply Kd.R_drewN | apply Kd.R_drew)); exact HO_584004.out) hb); have n1_ := Aside0.mk (Kd.S_below (by (with_reducible repeat (first | apply Kd.S_alloc | apply Kd.S_drewN | apply Kd.S_drew)); exact HO_596004.out) hb); have n2_ := Aside0.mk (Kd.S_lower (Kd.S_new' ho0 (Kd.R_lt (by (with_reducible repeat (first | apply Kd.R_alloc | apply Kd.R_drewN | apply Kd.R_drew)); exact HO_584004.out))) (below_size (by repeat (first | (with_reducible first | exact HB.out | apply below_alloc | apply pw_below_drewN | apply below_drew1 | refine below_set ?_ GE583.out | refine below_set ?_ GE595.out) | exact HB.out)))); have n3_ := Aside0.mk (blk_below (g := gb583) (o := .cells #[.int .i64 t573, .int .i64 t574, .string t575, .int .i64 t576, .slice Ao18 t577.length co18, .int .i64 t580] 24 (0, 0)) (by (with_reducible repeat (first | refine blk_drewN ?_ _ | refine blk_drew ?_ | refine blk_alloc ?_ _)); exact BK583.out) hb); have n4_ := Aside0.mk (blk_below (g := gb595) (o := .cells #[.int .i64 t586, .int .i64 t587, .string t588, .int .i64 t589, .slice Ao38 t590.length co38] 27 (0, 0)) (by (with_reducible repeat (first | refine blk_drewN ?_ _ | refine blk_drew ?_ | refine blk_alloc ?_ _)); exact BK595.out) hb); have n5_ := Aside0.mk (below_step (by repeat (first | (with_reducible first | exact HB.out | apply below_alloc | apply pw_below_drewN | apply below_drew1 | refine below_set ?_ GE583.out | refine below_set ?_ GE595.out) | exact HB.out)) hb); clear HO_584004; clear HO_596004; clear BK583; clear BK595; clear HB; have HO_584004 := n0_; have HO_596004 := n1_; have HO602 := n2_; have BK583 := n3_; have BK595 := n4_; have HB := n5_; clear n0_ n1_ n2_ n3_ n4_ n5_; (try clear hb); (try clear hb2); (try clear hk); (try clear hi); (try clear ho0)))
        (try simp only [Act.put, List.setIfInBounds_toArray, List.set_cons_zero, List.set_cons_succ])
        go_cut [] (fun wc => ∃ (kq : Nat), Aside0 (surmiselaw10_CodecOnce.j3 kq a0 a1 = some r) ∧ Aside0 (kq ≤ kj32) ∧ Aside0 (Kd.R (Kd.int .i64) 3 wc w.heap.size (fun _ => True) (.slice Ao18 t577.length co18) t577) ∧ Aside0 (Kd.S k81 81 wc w.heap.size (fun k_ => some k_ ≠ ((.slice Ao18 t577.length co18) : Value).ownBlock) (.slice Ao38 t590.length co38) t590) ∧ Aside0 (wc.heap[gb583]? = some (.cells #[.int .i64 t573, .int .i64 t574, .string t575, .int .i64 t576, (.slice Ao18 t577.length co18), .int .i64 t580] 24 (0, 0))) ∧ Aside0 (wc.heap[gb595]? = some (.cells #[.int .i64 t586, .int .i64 t587, .string t588, .int .i64 t589, (.slice Ao38 t590.length co38)] 27 (0, 0))) ∧ Aside0 (Below w.heap.size w wc))
        case first =>
         have H := HC56.out
         clear HC56
         by_cases c58 : t600 = 0
         ·rw [if_pos c58] at H
          have c58b0 : (t600 == 0) = true := beq_iff_eq.mpr c58
          have c58b1 : (t600 != 0) = false := bne_eq_false_iff_eq.mpr c58
          clear c58
          (first | rw [c58b0] | (simp only [i64_w, i32_w]; rw [c58b0]) | skip)
          replace H := Option.bind_eq_some_iff.mp H
          obtain ⟨⟨t603, t604⟩, A590, H⟩ := H
          replace H : (if t604 = 0 then (if 0 ≤ a1 then (if a1 ≤ t599 then (if t599 ≤ (a0.size : Int) then (if t603.toList = (a0.extract (a1 : Int).toNat (t599 : Int).toNat).toList then (surmiselaw10_CodecOnce.j3 kj32 a0 a1) else (some false)) else (none)) else (none)) else (none)) else (some false)) = some r := H
          have A59 := Aside0.mk A590
          clear A590
          by_cases c60 : t604 = 0
          ·rw [if_pos c60] at H
           have c60b0 : (t604 == 0) = true := beq_iff_eq.mpr c60
           have c60b1 : (t604 != 0) = false := bne_eq_false_iff_eq.mpr c60
           clear c60
           by_cases c61 : 0 ≤ a1
           ·rw [if_pos c61] at H
            have c61b0 := eq_true c61
            have c61b1 : decide (0 ≤ a1) = true := decide_eq_true c61
            clear c61
            by_cases c62 : a1 ≤ t599
            ·rw [if_pos c62] at H
             have c62b0 := eq_true c62
             have c62b1 : decide (a1 ≤ t599) = true := decide_eq_true c62
             clear c62
             by_cases c63 : t599 ≤ (a0.size : Int)
             ·rw [if_pos c63] at H
              have c63b0 := eq_true c63
              have c63b1 : decide (t599 ≤ (a0.size : Int)) = true := decide_eq_true c63
              clear c63
              by_cases c64 : t603.toList = (a0.extract (a1 : Int).toNat (t599 : Int).toNat).toList
              ·rw [if_pos c64] at H
               have c64b0 : (t603.toList == (a0.extract (a1 : Int).toNat (t599 : Int).toNat).toList) = true := beq_iff_eq.mpr c64
               have c64b1 : (t603.toList != (a0.extract (a1 : Int).toNat (t599 : Int).toNat).toList) = false := bne_eq_false_iff_eq.mpr c64
               clear c64
               have H' := Aside0.mk H
               clear H
               obtain ⟨Ao65, co65, eo65⟩ := Kd.S_slice HO602.out
               subst eo65
               go_wp2_with (first | ((with_reducible refine gate_callee (f := 19) rfl ?_); refine goesL_ (some 97) rfl rfl Try.func19 (by kernel_rfl) rfl #[.slice Ao65 t598.length co65] rfl (by (try simp only [List.map_toArray, List.map_cons, List.map_nil]); first | done | rfl | (simp only [List.length_drop, List.length_take]; rfl)) ?_; (with_reducible refine (codec_PutItems.calls kj32 _ _ t598 t603 t604 _ ?side1 ?side2 A59.out).mono ?_); (case side1 => repeat (first | exact (Kd.S_reads' HO602.out).2.2 | (with_reducible refine Kd.C_alloc ?_ _) | (with_reducible refine Kd.C_drewN ?_ _) | (with_reducible refine Kd.C_drew ?_))); (case side2 => exact (Kd.S_reads' HO602.out).2.1); rintro e w66 ⟨rfl, hb⟩; refine ⟨_, rfl, ?_⟩; have n0_ := Aside0.mk (Kd.R_below (by (with_reducible repeat (first | apply Kd.R_alloc | apply Kd.R_drewN | apply Kd.R_drew)); exact HO_584004.out) hb); have n1_ := Aside0.mk (Kd.S_below (by (with_reducible repeat (first | apply Kd.S_alloc | apply Kd.S_drewN | apply Kd.S_drew)); exact HO_596004.out) hb); have n2_ := Aside0.mk (Kd.S_below (by (with_reducible repeat (first | apply Kd.S_alloc | apply Kd.S_drewN | apply Kd.S_drew)); exact HO602.out) hb); have n3_ := Aside0.mk (blk_below (g := gb583) (o := .cells #[.int .i64 t573, .int .i64 t574, .string t575, .int .i64 t576, .slice Ao18 t577.length co18, .int .i64 t580] 24 (0, 0)) (by (with_reducible repeat (first | refine blk_drewN ?_ _ | refine blk_drew ?_ | refine blk_alloc ?_ _)); exact BK583.out) hb); have n4_ := Aside0.mk (blk_below (g := gb595) (o := .cells #[.int .i64 t586, .int .i64 t587, .string t588, .int .i64 t589, .slice Ao38 t590.length co38] 27 (0, 0)) (by (with_reducible repeat (first | refine blk_drewN ?_ _ | refine blk_drew ?_ | refine blk_alloc ?_ _)); exact BK595.out) hb); have n5_ := Aside0.mk (below_step (by repeat (first | (with_reducible first | exact HB.out | apply below_alloc | apply pw_below_drewN | apply below_drew1 | refine below_set ?_ GE583.out | refine below_set ?_ GE595.out) | exact HB.out)) hb); clear HO_584004; clear HO_596004; clear HO602; clear BK583; clear BK595; clear HB; have HO_584004 := n0_; have HO_596004 := n1_; have HO602 := n2_; have BK583 := n3_; have BK595 := n4_; have HB := n5_; clear n0_ n1_ n2_ n3_ n4_ n5_; (try clear hb); (try clear hb2); (try clear hk); (try clear hi)))
               go_meet
               case rel => exact ⟨_, H', ⟨by have := HJ2.out; have := HJ13.out; have := HJ32.out; first | omega | exact Nat.le_refl _⟩, ⟨by (with_reducible repeat (first | apply Kd.R_alloc | apply Kd.R_drewN | apply Kd.R_drew)); exact HO_584004.out⟩, ⟨by (with_reducible repeat (first | apply Kd.S_alloc | apply Kd.S_drewN | apply Kd.S_drew)); exact HO_596004.out⟩, ⟨by (with_reducible repeat (first | refine blk_drewN ?_ _ | refine blk_drew ?_ | refine blk_alloc ?_ _)); exact BK583.out⟩, ⟨by (with_reducible repeat (first | refine blk_drewN ?_ _ | refine blk_drew ?_ | refine blk_alloc ?_ _)); exact BK595.out⟩, ⟨by repeat (first | (with_reducible first | exact HB.out | apply below_alloc | apply pw_below_drewN | apply below_drew1 | refine below_set ?_ GE583.out | refine below_set ?_ GE595.out) | exact HB.out)⟩⟩
              ·rw [if_neg c64] at H
               have c64b0 : (t603.toList == (a0.extract (a1 : Int).toNat (t599 : Int).toNat).toList) = false := beq_eq_false_iff_ne.mpr c64
               have c64b1 : (t603.toList != (a0.extract (a1 : Int).toNat (t599 : Int).toNat).toList) = true := bne_iff_ne.mpr c64
               obtain rfl := Option.some.inj H
               obtain ⟨Ao67, co67, eo67⟩ := Kd.S_slice HO602.out
               subst eo67
               go_wp2_with (first | ((with_reducible refine gate_callee (f := 19) rfl ?_); refine goesL_ (some 97) rfl rfl Try.func19 (by kernel_rfl) rfl #[.slice Ao67 t598.length co67] rfl (by (try simp only [List.map_toArray, List.map_cons, List.map_nil]); first | done | rfl | (simp only [List.length_drop, List.length_take]; rfl)) ?_; (with_reducible refine (codec_PutItems.calls kj32 _ _ t598 t603 t604 _ ?side1 ?side2 A59.out).mono ?_); (case side1 => repeat (first | exact (Kd.S_reads' HO602.out).2.2 | (with_reducible refine Kd.C_alloc ?_ _) | (with_reducible refine Kd.C_drewN ?_ _) | (with_reducible refine Kd.C_drew ?_))); (case side2 => exact (Kd.S_reads' HO602.out).2.1); rintro e w68 ⟨rfl, hb⟩; refine ⟨_, rfl, ?_⟩; have n0_ := Aside0.mk (Kd.R_below (by (with_reducible repeat (first | apply Kd.R_alloc | apply Kd.R_drewN | apply Kd.R_drew)); exact HO_584004.out) hb); have n1_ := Aside0.mk (Kd.S_below (by (with_reducible repeat (first | apply Kd.S_alloc | apply Kd.S_drewN | apply Kd.S_drew)); exact HO_596004.out) hb); have n2_ := Aside0.mk (Kd.S_below (by (with_reducible repeat (first | apply Kd.S_alloc | apply Kd.S_drewN | apply Kd.S_drew)); exact HO602.out) hb); have n3_ := Aside0.mk (blk_below (g := gb583) (o := .cells #[.int .i64 t573, .int .i64 t574, .string t575, .int .i64 t576, .slice Ao18 t577.length co18, .int .i64 t580] 24 (0, 0)) (by (with_reducible repeat (first | refine blk_drewN ?_ _ | refine blk_drew ?_ | refine blk_alloc ?_ _)); exact BK583.out) hb); have n4_ := Aside0.mk (blk_below (g := gb595) (o := .cells #[.int .i64 t586, .int .i64 t587, .string t588, .int .i64 t589, .slice Ao38 t590.length co38] 27 (0, 0)) (by (with_reducible repeat (first | refine blk_drewN ?_ _ | refine blk_drew ?_ | refine blk_alloc ?_ _)); exact BK595.out) hb); have n5_ := Aside0.mk (below_step (by repeat (first | (with_reducible first | exact HB.out | apply below_alloc | apply pw_below_drewN | apply below_drew1 | refine below_set ?_ GE583.out | refine below_set ?_ GE595.out) | exact HB.out)) hb); clear HO_584004; clear HO_596004; clear HO602; clear BK583; clear BK595; clear HB; have HO_584004 := n0_; have HO_596004 := n1_; have HO602 := n2_; have BK583 := n3_; have BK595 := n4_; have HB := n5_; clear n0_ n1_ n2_ n3_ n4_ n5_; (try clear hb); (try clear hb2); (try clear hk); (try clear hi)))
               go_ret
               exact ⟨by first | rfl | (simp [errW_none, errW_some] <;> rfl) | (simp [*, errW_none, errW_some] <;> rfl), by repeat (first | (with_reducible first | exact HB.out | apply below_alloc | apply pw_below_drewN | apply below_drew1 | refine below_set ?_ GE583.out | refine below_set ?_ GE595.out) | exact HB.out)⟩
             ·rw [if_neg c63] at H
              exact absurd H (by simp)
            ·rw [if_neg c62] at H
             exact absurd H (by simp)
           ·rw [if_neg c61] at H
            exact absurd H (by simp)
          ·rw [if_neg c60] at H
           have c60b0 : (t604 == 0) = false := beq_eq_false_iff_ne.mpr c60
           have c60b1 : (t604 != 0) = true := bne_iff_ne.mpr c60
           obtain rfl := Option.some.inj H
           obtain ⟨Ao69, co69, eo69⟩ := Kd.S_slice HO602.out
           subst eo69
           go_wp2_with (first | ((with_reducible refine gate_callee (f := 19) rfl ?_); refine goesL_ (some 97) rfl rfl Try.func19 (by kernel_rfl) rfl #[.slice Ao69 t598.length co69] rfl (by (try simp only [List.map_toArray, List.map_cons, List.map_nil]); first | done | rfl | (simp only [List.length_drop, List.length_take]; rfl)) ?_; (with_reducible refine (codec_PutItems.calls kj32 _ _ t598 t603 t604 _ ?side1 ?side2 A59.out).mono ?_); (case side1 => repeat (first | exact (Kd.S_reads' HO602.out).2.2 | (with_reducible refine Kd.C_alloc ?_ _) | (with_reducible refine Kd.C_drewN ?_ _) | (with_reducible refine Kd.C_drew ?_))); (case side2 => exact (Kd.S_reads' HO602.out).2.1); rintro e w70 ⟨rfl, hb⟩; refine ⟨_, rfl, ?_⟩; have n0_ := Aside0.mk (Kd.R_below (by (with_reducible repeat (first | apply Kd.R_alloc | apply Kd.R_drewN | apply Kd.R_drew)); exact HO_584004.out) hb); have n1_ := Aside0.mk (Kd.S_below (by (with_reducible repeat (first | apply Kd.S_alloc | apply Kd.S_drewN | apply Kd.S_drew)); exact HO_596004.out) hb); have n2_ := Aside0.mk (Kd.S_below (by (with_reducible repeat (first | apply Kd.S_alloc | apply Kd.S_drewN | apply Kd.S_drew)); exact HO602.out) hb); have n3_ := Aside0.mk (blk_below (g := gb583) (o := .cells #[.int .i64 t573, .int .i64 t574, .string t575, .int .i64 t576, .slice Ao18 t577.length co18, .int .i64 t580] 24 (0, 0)) (by (with_reducible repeat (first | refine blk_drewN ?_ _ | refine blk_drew ?_ | refine blk_alloc ?_ _)); exact BK583.out) hb); have n4_ := Aside0.mk (blk_below (g := gb595) (o := .cells #[.int .i64 t586, .int .i64 t587, .string t588, .int .i64 t589, .slice Ao38 t590.length co38] 27 (0, 0)) (by (with_reducible repeat (first | refine blk_drewN ?_ _ | refine blk_drew ?_ | refine blk_alloc ?_ _)); exact BK595.out) hb); have n5_ := Aside0.mk (below_step (by repeat (first | (with_reducible first | exact HB.out | apply below_alloc | apply pw_below_drewN | apply below_drew1 | refine below_set ?_ GE583.out | refine below_set ?_ GE595.out) | exact HB.out)) hb); clear HO_584004; clear HO_596004; clear HO602; clear BK583; clear BK595; clear HB; have HO_584004 := n0_; have HO_596004 := n1_; have HO602 := n2_; have BK583 := n3_; have BK595 := n4_; have HB := n5_; clear n0_ n1_ n2_ n3_ n4_ n5_; (try clear hb); (try clear hb2); (try clear hk); (try clear hi)))
           go_ret
           exact ⟨by first | rfl | (simp [errW_none, errW_some] <;> rfl) | (simp [*, errW_none, errW_some] <;> rfl), by repeat (first | (with_reducible first | exact HB.out | apply below_alloc | apply pw_below_drewN | apply below_drew1 | refine below_set ?_ GE583.out | refine below_set ?_ GE595.out) | exact HB.out)⟩
         ·rw [if_neg c58] at H
          have c58b0 : (t600 == 0) = false := beq_eq_false_iff_ne.mpr c58
          have c58b1 : (t600 != 0) = true := bne_iff_ne.mpr c58
          (first | rw [c58b0] | (simp only [i64_w, i32_w]; rw [c58b0]) | skip)
          have H' := Aside0.mk H
          clear H
          go_wp2
          go_meet
          case rel => exact ⟨_, H', ⟨by have := HJ2.out; have := HJ13.out; have := HJ32.out; first | omega | exact Nat.le_refl _⟩, ⟨by (with_reducible repeat (first | apply Kd.R_alloc | apply Kd.R_drewN | apply Kd.R_drew)); exact HO_584004.out⟩, ⟨by (with_reducible repeat (first | apply Kd.S_alloc | apply Kd.S_drewN | apply Kd.S_drew)); exact HO_596004.out⟩, ⟨by (with_reducible repeat (first | refine blk_drewN ?_ _ | refine blk_drew ?_ | refine blk_alloc ?_ _)); exact BK583.out⟩, ⟨by (with_reducible repeat (first | refine blk_drewN ?_ _ | refine blk_drew ?_ | refine blk_alloc ?_ _)); exact BK595.out⟩, ⟨by repeat (first | (with_reducible first | exact HB.out | apply below_alloc | apply pw_below_drewN | apply below_drew1 | refine below_set ?_ GE583.out | refine below_set ?_ GE595.out) | exact HB.out)⟩⟩
        case rest =>
         clear HC56
         try clear c1
         try clear c2
         try clear p2
         try clear c3
         try clear c4
         try clear c5
         try clear c6
         try clear c6b0
         try clear c7
         try clear c8
         try clear c10
         try clear c11
         try clear c19
         try clear c19b0
         try clear c19b1
         try clear c21
         try clear c21b0
         try clear c21b1
         try clear c22
         try clear c22b0
         try clear c22b1
         try clear c23
         try clear c23b0
         try clear c23b1
         try clear c24
         try clear c24b0
         try clear c24b1
         try clear c25
         try clear c25b0
         try clear c25b1
         try clear c28
         try clear c29
         try clear c30
         try clear c36
         try clear c39
         try clear c39b0
         try clear c39b1
         try clear c41
         try clear c41b0
         try clear c41b1
         try clear c42
         try clear c42b0
         try clear c42b1
         try clear c43
         try clear c43b0
         try clear c43b1
         try clear c44
         try clear c44b0
         try clear c44b1
         try clear c45
         try clear c45b0
         try clear c45b1
         try clear c46
         try clear c49
         try clear c52
         try clear c58
         try clear c58b0
         try clear c58b1
         try clear c60
         try clear c60b0
         try clear c60b1
         try clear c61
         try clear c61b0
         try clear c61b1
         try clear c62
         try clear c62b0
         try clear c62b1
         try clear c63
         try clear c63b0
         try clear c63b1
         try clear c64
         try clear c64b0
         try clear c64b1
         try clear hcz17_0
         try clear hcz17_1
         try clear hcz17_2
         try clear hcz17_3
         try clear hcz17_4
         try clear hcz17_5
         try clear hcz26_0
         try clear hcz26_1
         try clear hcz26_2
         try clear hcz26_3
         try clear hcz26_4
         try clear hcz26_5
         try clear hcz28_0
         try clear hcz28_1
         try clear hcz28_2
         try clear hcz28_3
         try clear hcz28_4
         try clear hcz28_5
         try clear hcz30_0
         try clear hcz30_1
         try clear hcz30_2
         try clear hcz30_3
         try clear hcz30_4
         try clear hcz30_5
         try clear hcz37_0
         try clear hcz37_1
         try clear hcz37_2
         try clear hcz37_3
         try clear hcz37_4
         try clear hcz47_0
         try clear hcz47_1
         try clear hcz47_2
         try clear hcz47_3
         try clear hcz47_4
         try clear hcz50_0
         try clear hcz50_1
         try clear hcz50_2
         try clear hcz50_3
         try clear hcz50_4
         try clear hcz53_0
         try clear hcz53_1
         try clear hcz53_2
         try clear hcz53_3
         try clear hcz53_4
         try clear hfz17_0
         try clear hfz17_1
         try clear hfz17_2
         try clear hfz17_3
         try clear hfz17_4
         try clear hfz17_5
         try clear hfz26_0
         try clear hfz26_1
         try clear hfz26_2
         try clear hfz26_3
         try clear hfz26_4
         try clear hfz26_5
         try clear hfz28_0
         try clear hfz28_1
         try clear hfz28_2
         try clear hfz28_3
         try clear hfz28_4
         try clear hfz28_5
         try clear hfz30_0
         try clear hfz30_1
         try clear hfz30_2
         try clear hfz30_3
         try clear hfz30_4
         try clear hfz30_5
         try clear hfz37_0
         try clear hfz37_1
         try clear hfz37_2
         try clear hfz37_3
         try clear hfz37_4
         try clear hfz47_0
         try clear hfz47_1
         try clear hfz47_2
         try clear hfz47_3
         try clear hfz47_4
         try clear hfz50_0
         try clear hfz50_1
         try clear hfz50_2
         try clear hfz50_3
         try clear hfz50_4
         try clear hfz53_0
         try clear hfz53_1
         try clear hfz53_2
         try clear hfz53_3
         try clear hfz53_4
         try clear p2
         obtain ⟨kq, HA, HJ55, HO_584004, HO_596004, BK583, BK595, HB⟩ := hcut
         cases kq with
         | zero => exact absurd HA.out (by simp [surmiselaw10_CodecOnce.j3])
         | succ kj55 =>
          have H := HA.out
          clear HA
          simp only [surmiselaw10_CodecOnce.j3] at H
          replace H := Option.bind_eq_some_iff.mp H
          obtain ⟨⟨t605, t606, t607⟩, A710, H⟩ := H
          replace H : (if t607 = 0 then ((codec_PutVerdicts.f kj55 t605).bind fun bt610 => (if bt610.2 = 0 then (if 0 ≤ a1 then (if a1 ≤ t606 then (if t606 ≤ (a0.size : Int) then (some (bt610.1.toList == (a0.extract (a1 : Int).toNat (t606 : Int).toNat).toList)) else (none)) else (none)) else (none)) else (some false))) else (if t606 = 0 then (some ((t605.length : Int) == 0)) else (some false))) = some r := H
          have A71 := Aside0.mk A710
          clear A710
          by_cases c72 : t607 = 0
          ·rw [if_pos c72] at H
           have c72b0 : (t607 == 0) = true := beq_iff_eq.mpr c72
           have c72b1 : (t607 != 0) = false := bne_eq_false_iff_eq.mpr c72
           clear c72
           replace H := Option.bind_eq_some_iff.mp H
           obtain ⟨⟨t610, t611⟩, A730, H⟩ := H
           replace H : (if t611 = 0 then (if 0 ≤ a1 then (if a1 ≤ t606 then (if t606 ≤ (a0.size : Int) then (some (t610.toList == (a0.extract (a1 : Int).toNat (t606 : Int).toNat).toList)) else (none)) else (none)) else (none)) else (some false)) = some r := H
           have A73 := Aside0.mk A730
           clear A730
           by_cases c74 : t611 = 0
           ·rw [if_pos c74] at H
            have c74b0 : (t611 == 0) = true := beq_iff_eq.mpr c74
            have c74b1 : (t611 != 0) = false := bne_eq_false_iff_eq.mpr c74
            clear c74
            by_cases c75 : 0 ≤ a1
            ·rw [if_pos c75] at H
             have c75b0 := eq_true c75
             have c75b1 : decide (0 ≤ a1) = true := decide_eq_true c75
             clear c75
             by_cases c76 : a1 ≤ t606
             ·rw [if_pos c76] at H
              have c76b0 := eq_true c76
              have c76b1 : decide (a1 ≤ t606) = true := decide_eq_true c76
              clear c76
              by_cases c77 : t606 ≤ (a0.size : Int)
              ·rw [if_pos c77] at H
               have c77b0 := eq_true c77
               have c77b1 : decide (t606 ≤ (a0.size : Int)) = true := decide_eq_true c77
               clear c77
               obtain rfl := Option.some.inj H
               go_wp2_with (first | ((with_reducible refine gate_callee (f := 31) rfl ?_); refine goesL_ (some 113) rfl rfl Try.func31 (by kernel_rfl) rfl #[.string a0, .int .i64 a1] rfl (by (try simp only [List.map_toArray, List.map_cons, List.map_nil]); first | done | rfl | (simp only [List.length_drop, List.length_take]; rfl)) ?_; (with_reducible refine (codec_ReadVerdicts.calls kj55 a0 a1 t605 t606 t607 _ A71.out).mono ?_); rintro e w78 ⟨v608, rfl, ho0, hb⟩; refine ⟨_, rfl, ?_⟩; have n0_ := Aside0.mk (Kd.R_below (by (with_reducible repeat (first | apply Kd.R_alloc | apply Kd.R_drewN | apply Kd.R_drew)); exact HO_584004.out) hb); have n1_ := Aside0.mk (Kd.S_below (by (with_reducible repeat (first | apply Kd.S_alloc | apply Kd.S_drewN | apply Kd.S_drew)); exact HO_596004.out) hb); have n2_ := Aside0.mk (Kd.R_lower ho0 (below_size (by repeat (first | (with_reducible first | exact HB.out | apply below_alloc | apply pw_below_drewN | apply below_drew1 | refine below_set ?_ GE583.out | refine below_set ?_ GE595.out) | exact HB.out)))); have n3_ := Aside0.mk (blk_below (g := gb583) (o := .cells #[.int .i64 t573, .int .i64 t574, .string t575, .int .i64 t576, .slice Ao18 t577.length co18, .int .i64 t580] 24 (0, 0)) (by (with_reducible repeat (first | refine blk_drewN ?_ _ | refine blk_drew ?_ | refine blk_alloc ?_ _)); exact BK583.out) hb); have n4_ := Aside0.mk (blk_below (g := gb595) (o := .cells #[.int .i64 t586, .int .i64 t587, .string t588, .int .i64 t589, .slice Ao38 t590.length co38] 27 (0, 0)) (by (with_reducible repeat (first | refine blk_drewN ?_ _ | refine blk_drew ?_ | refine blk_alloc ?_ _)); exact BK595.out) hb); have n5_ := Aside0.mk (below_step (by repeat (first | (with_reducible first | exact HB.out | apply below_alloc | apply pw_below_drewN | apply below_drew1 | refine below_set ?_ GE583.out | refine below_set ?_ GE595.out) | exact HB.out)) hb); clear HO_584004; clear HO_596004; clear BK583; clear BK595; clear HB; have HO_584004 := n0_; have HO_596004 := n1_; have HO609 := n2_; have BK583 := n3_; have BK595 := n4_; have HB := n5_; clear n0_ n1_ n2_ n3_ n4_ n5_; (try clear hb); (try clear hb2); (try clear hk); (try clear hi); (try clear ho0); obtain ⟨Ao79, co79, eo79⟩ := Kd.R_slice HO609.out; subst eo79) | ((with_reducible refine gate_callee (f := 20) rfl ?_); refine goesL_ (some 128) rfl rfl Try.func20 (by kernel_rfl) rfl #[.slice Ao79 t605.length co79] rfl (by (try simp only [List.map_toArray, List.map_cons, List.map_nil]); first | done | rfl | (simp only [List.length_drop, List.length_take]; rfl)) ?_; (with_reducible refine (codec_PutVerdicts.calls kj55 _ _ t605 t610 t611 _ ?side1 ?side2 A73.out).mono ?_); (case side1 => repeat (first | exact (Kd.R_reads' HO609.out).2.2 | (with_reducible refine Kd.C_alloc ?_ _) | (with_reducible refine Kd.C_drewN ?_ _) | (with_reducible refine Kd.C_drew ?_))); (case side2 => exact (Kd.R_reads' HO609.out).2.1); rintro e w80 ⟨rfl, hb⟩; refine ⟨_, rfl, ?_⟩; have n0_ := Aside0.mk (Kd.R_below (by (with_reducible repeat (first | apply Kd.R_alloc | apply Kd.R_drewN | apply Kd.R_drew)); exact HO_584004.out) hb); have n1_ := Aside0.mk (Kd.S_below (by (with_reducible repeat (first | apply Kd.S_alloc | apply Kd.S_drewN | apply Kd.S_drew)); exact HO_596004.out) hb); have n2_ := Aside0.mk (Kd.R_below (by (with_reducible repeat (first | apply Kd.R_alloc | apply Kd.R_drewN | apply Kd.R_drew)); exact HO609.out) hb); have n3_ := Aside0.mk (blk_below (g := gb583) (o := .cells #[.int .i64 t573, .int .i64 t574, .string t575, .int .i64 t576, .slice Ao18 t577.length co18, .int .i64 t580] 24 (0, 0)) (by (with_reducible repeat (first | refine blk_drewN ?_ _ | refine blk_drew ?_ | refine blk_alloc ?_ _)); exact BK583.out) hb); have n4_ := Aside0.mk (blk_below (g := gb595) (o := .cells #[.int .i64 t586, .int .i64 t587, .string t588, .int .i64 t589, .slice Ao38 t590.length co38] 27 (0, 0)) (by (with_reducible repeat (first | refine blk_drewN ?_ _ | refine blk_drew ?_ | refine blk_alloc ?_ _)); exact BK595.out) hb); have n5_ := Aside0.mk (below_step (by repeat (first | (with_reducible first | exact HB.out | apply below_alloc | apply pw_below_drewN | apply below_drew1 | refine below_set ?_ GE583.out | refine below_set ?_ GE595.out) | exact HB.out)) hb); clear HO_584004; clear HO_596004; clear HO609; clear BK583; clear BK595; clear HB; have HO_584004 := n0_; have HO_596004 := n1_; have HO609 := n2_; have BK583 := n3_; have BK595 := n4_; have HB := n5_; clear n0_ n1_ n2_ n3_ n4_ n5_; (try clear hb); (try clear hb2); (try clear hk); (try clear hi)))
               go_ret
               exact ⟨by first | rfl | (simp [errW_none, errW_some] <;> rfl) | (simp [*, errW_none, errW_some] <;> rfl), by repeat (first | (with_reducible first | exact HB.out | apply below_alloc | apply pw_below_drewN | apply below_drew1 | refine below_set ?_ GE583.out | refine below_set ?_ GE595.out) | exact HB.out)⟩
              ·rw [if_neg c77] at H
               exact absurd H (by simp)
             ·rw [if_neg c76] at H
              exact absurd H (by simp)
            ·rw [if_neg c75] at H
             exact absurd H (by simp)
           ·rw [if_neg c74] at H
            have c74b0 : (t611 == 0) = false := beq_eq_false_iff_ne.mpr c74
            have c74b1 : (t611 != 0) = true := bne_iff_ne.mpr c74
            obtain rfl := Option.some.inj H
            go_wp2_with (first | ((with_reducible refine gate_callee (f := 31) rfl ?_); refine goesL_ (some 113) rfl rfl Try.func31 (by kernel_rfl) rfl #[.string a0, .int .i64 a1] rfl (by (try simp only [List.map_toArray, List.map_cons, List.map_nil]); first | done | rfl | (simp only [List.length_drop, List.length_take]; rfl)) ?_; (with_reducible refine (codec_ReadVerdicts.calls kj55 a0 a1 t605 t606 t607 _ A71.out).mono ?_); rintro e w81 ⟨v608, rfl, ho0, hb⟩; refine ⟨_, rfl, ?_⟩; have n0_ := Aside0.mk (Kd.R_below (by (with_reducible repeat (first | apply Kd.R_alloc | apply Kd.R_drewN | apply Kd.R_drew)); exact HO_584004.out) hb); have n1_ := Aside0.mk (Kd.S_below (by (with_reducible repeat (first | apply Kd.S_alloc | apply Kd.S_drewN | apply Kd.S_drew)); exact HO_596004.out) hb); have n2_ := Aside0.mk (Kd.R_lower ho0 (below_size (by repeat (first | (with_reducible first | exact HB.out | apply below_alloc | apply pw_below_drewN | apply below_drew1 | refine below_set ?_ GE583.out | refine below_set ?_ GE595.out) | exact HB.out)))); have n3_ := Aside0.mk (blk_below (g := gb583) (o := .cells #[.int .i64 t573, .int .i64 t574, .string t575, .int .i64 t576, .slice Ao18 t577.length co18, .int .i64 t580] 24 (0, 0)) (by (with_reducible repeat (first | refine blk_drewN ?_ _ | refine blk_drew ?_ | refine blk_alloc ?_ _)); exact BK583.out) hb); have n4_ := Aside0.mk (blk_below (g := gb595) (o := .cells #[.int .i64 t586, .int .i64 t587, .string t588, .int .i64 t589, .slice Ao38 t590.length co38] 27 (0, 0)) (by (with_reducible repeat (first | refine blk_drewN ?_ _ | refine blk_drew ?_ | refine blk_alloc ?_ _)); exact BK595.out) hb); have n5_ := Aside0.mk (below_step (by repeat (first | (with_reducible first | exact HB.out | apply below_alloc | apply pw_below_drewN | apply below_drew1 | refine below_set ?_ GE583.out | refine below_set ?_ GE595.out) | exact HB.out)) hb); clear HO_584004; clear HO_596004; clear BK583; clear BK595; clear HB; have HO_584004 := n0_; have HO_596004 := n1_; have HO609 := n2_; have BK583 := n3_; have BK595 := n4_; have HB := n5_; clear n0_ n1_ n2_ n3_ n4_ n5_; (try clear hb); (try clear hb2); (try clear hk); (try clear hi); (try clear ho0); obtain ⟨Ao82, co82, eo82⟩ := Kd.R_slice HO609.out; subst eo82) | ((with_reducible refine gate_callee (f := 20) rfl ?_); refine goesL_ (some 128) rfl rfl Try.func20 (by kernel_rfl) rfl #[.slice Ao82 t605.length co82] rfl (by (try simp only [List.map_toArray, List.map_cons, List.map_nil]); first | done | rfl | (simp only [List.length_drop, List.length_take]; rfl)) ?_; (with_reducible refine (codec_PutVerdicts.calls kj55 _ _ t605 t610 t611 _ ?side1 ?side2 A73.out).mono ?_); (case side1 => repeat (first | exact (Kd.R_reads' HO609.out).2.2 | (with_reducible refine Kd.C_alloc ?_ _) | (with_reducible refine Kd.C_drewN ?_ _) | (with_reducible refine Kd.C_drew ?_))); (case side2 => exact (Kd.R_reads' HO609.out).2.1); rintro e w83 ⟨rfl, hb⟩; refine ⟨_, rfl, ?_⟩; have n0_ := Aside0.mk (Kd.R_below (by (with_reducible repeat (first | apply Kd.R_alloc | apply Kd.R_drewN | apply Kd.R_drew)); exact HO_584004.out) hb); have n1_ := Aside0.mk (Kd.S_below (by (with_reducible repeat (first | apply Kd.S_alloc | apply Kd.S_drewN | apply Kd.S_drew)); exact HO_596004.out) hb); have n2_ := Aside0.mk (Kd.R_below (by (with_reducible repeat (first | apply Kd.R_alloc | apply Kd.R_drewN | apply Kd.R_drew)); exact HO609.out) hb); have n3_ := Aside0.mk (blk_below (g := gb583) (o := .cells #[.int .i64 t573, .int .i64 t574, .string t575, .int .i64 t576, .slice Ao18 t577.length co18, .int .i64 t580] 24 (0, 0)) (by (with_reducible repeat (first | refine blk_drewN ?_ _ | refine blk_drew ?_ | refine blk_alloc ?_ _)); exact BK583.out) hb); have n4_ := Aside0.mk (blk_below (g := gb595) (o := .cells #[.int .i64 t586, .int .i64 t587, .string t588, .int .i64 t589, .slice Ao38 t590.length co38] 27 (0, 0)) (by (with_reducible repeat (first | refine blk_drewN ?_ _ | refine blk_drew ?_ | refine blk_alloc ?_ _)); exact BK595.out) hb); have n5_ := Aside0.mk (below_step (by repeat (first | (with_reducible first | exact HB.out | apply below_alloc | apply pw_below_drewN | apply below_drew1 | refine below_set ?_ GE583.out | refine below_set ?_ GE595.out) | exact HB.out)) hb); clear HO_584004; clear HO_596004; clear HO609; clear BK583; clear BK595; clear HB; have HO_584004 := n0_; have HO_596004 := n1_; have HO609 := n2_; have BK583 := n3_; have BK595 := n4_; have HB := n5_; clear n0_ n1_ n2_ n3_ n4_ n5_; (try clear hb); (try clear hb2); (try clear hk); (try clear hi)))
            go_ret
            exact ⟨by first | rfl | (simp [errW_none, errW_some] <;> rfl) | (simp [*, errW_none, errW_some] <;> rfl), by repeat (first | (with_reducible first | exact HB.out | apply below_alloc | apply pw_below_drewN | apply below_drew1 | refine below_set ?_ GE583.out | refine below_set ?_ GE595.out) | exact HB.out)⟩
          ·rw [if_neg c72] at H
           have c72b0 : (t607 == 0) = false := beq_eq_false_iff_ne.mpr c72
           have c72b1 : (t607 != 0) = true := bne_iff_ne.mpr c72
           by_cases c84 : t606 = 0
           ·rw [if_pos c84] at H
            have c84b0 : (t606 == 0) = true := beq_iff_eq.mpr c84
            have c84b1 : (t606 != 0) = false := bne_eq_false_iff_eq.mpr c84
            clear c84
            obtain rfl := Option.some.inj H
            go_wp2_with (first | ((with_reducible refine gate_callee (f := 31) rfl ?_); refine goesL_ (some 113) rfl rfl Try.func31 (by kernel_rfl) rfl #[.string a0, .int .i64 a1] rfl (by (try simp only [List.map_toArray, List.map_cons, List.map_nil]); first | done | rfl | (simp only [List.length_drop, List.length_take]; rfl)) ?_; (with_reducible refine (codec_ReadVerdicts.calls kj55 a0 a1 t605 t606 t607 _ A71.out).mono ?_); rintro e w85 ⟨v608, rfl, ho0, hb⟩; refine ⟨_, rfl, ?_⟩; have n0_ := Aside0.mk (Kd.R_below (by (with_reducible repeat (first | apply Kd.R_alloc | apply Kd.R_drewN | apply Kd.R_drew)); exact HO_584004.out) hb); have n1_ := Aside0.mk (Kd.S_below (by (with_reducible repeat (first | apply Kd.S_alloc | apply Kd.S_drewN | apply Kd.S_drew)); exact HO_596004.out) hb); have n2_ := Aside0.mk (Kd.R_lower ho0 (below_size (by repeat (first | (with_reducible first | exact HB.out | apply below_alloc | apply pw_below_drewN | apply below_drew1 | refine below_set ?_ GE583.out | refine below_set ?_ GE595.out) | exact HB.out)))); have n3_ := Aside0.mk (blk_below (g := gb583) (o := .cells #[.int .i64 t573, .int .i64 t574, .string t575, .int .i64 t576, .slice Ao18 t577.length co18, .int .i64 t580] 24 (0, 0)) (by (with_reducible repeat (first | refine blk_drewN ?_ _ | refine blk_drew ?_ | refine blk_alloc ?_ _)); exact BK583.out) hb); have n4_ := Aside0.mk (blk_below (g := gb595) (o := .cells #[.int .i64 t586, .int .i64 t587, .string t588, .int .i64 t589, .slice Ao38 t590.length co38] 27 (0, 0)) (by (with_reducible repeat (first | refine blk_drewN ?_ _ | refine blk_drew ?_ | refine blk_alloc ?_ _)); exact BK595.out) hb); have n5_ := Aside0.mk (below_step (by repeat (first | (with_reducible first | exact HB.out | apply below_alloc | apply pw_below_drewN | apply below_drew1 | refine below_set ?_ GE583.out | refine below_set ?_ GE595.out) | exact HB.out)) hb); clear HO_584004; clear HO_596004; clear BK583; clear BK595; clear HB; have HO_584004 := n0_; have HO_596004 := n1_; have HO609 := n2_; have BK583 := n3_; have BK595 := n4_; have HB := n5_; clear n0_ n1_ n2_ n3_ n4_ n5_; (try clear hb); (try clear hb2); (try clear hk); (try clear hi); (try clear ho0); obtain ⟨Ao86, co86, eo86⟩ := Kd.R_slice HO609.out; subst eo86))
            go_ret
            exact ⟨by first | rfl | (simp [errW_none, errW_some] <;> rfl) | (simp [*, errW_none, errW_some] <;> rfl), by repeat (first | (with_reducible first | exact HB.out | apply below_alloc | apply pw_below_drewN | apply below_drew1 | refine below_set ?_ GE583.out | refine below_set ?_ GE595.out) | exact HB.out)⟩
           ·rw [if_neg c84] at H
            have c84b0 : (t606 == 0) = false := beq_eq_false_iff_ne.mpr c84
            have c84b1 : (t606 != 0) = true := bne_iff_ne.mpr c84
            obtain rfl := Option.some.inj H
            go_wp2_with (first | ((with_reducible refine gate_callee (f := 31) rfl ?_); refine goesL_ (some 113) rfl rfl Try.func31 (by kernel_rfl) rfl #[.string a0, .int .i64 a1] rfl (by (try simp only [List.map_toArray, List.map_cons, List.map_nil]); first | done | rfl | (simp only [List.length_drop, List.length_take]; rfl)) ?_; (with_reducible refine (codec_ReadVerdicts.calls kj55 a0 a1 t605 t606 t607 _ A71.out).mono ?_); rintro e w87 ⟨v608, rfl, ho0, hb⟩; refine ⟨_, rfl, ?_⟩; have n0_ := Aside0.mk (Kd.R_below (by (with_reducible repeat (first | apply Kd.R_alloc | apply Kd.R_drewN | apply Kd.R_drew)); exact HO_584004.out) hb); have n1_ := Aside0.mk (Kd.S_below (by (with_reducible repeat (first | apply Kd.S_alloc | apply Kd.S_drewN | apply Kd.S_drew)); exact HO_596004.out) hb); have n2_ := Aside0.mk (Kd.R_lower ho0 (below_size (by repeat (first | (with_reducible first | exact HB.out | apply below_alloc | apply pw_below_drewN | apply below_drew1 | refine below_set ?_ GE583.out | refine below_set ?_ GE595.out) | exact HB.out)))); have n3_ := Aside0.mk (blk_below (g := gb583) (o := .cells #[.int .i64 t573, .int .i64 t574, .string t575, .int .i64 t576, .slice Ao18 t577.length co18, .int .i64 t580] 24 (0, 0)) (by (with_reducible repeat (first | refine blk_drewN ?_ _ | refine blk_drew ?_ | refine blk_alloc ?_ _)); exact BK583.out) hb); have n4_ := Aside0.mk (blk_below (g := gb595) (o := .cells #[.int .i64 t586, .int .i64 t587, .string t588, .int .i64 t589, .slice Ao38 t590.length co38] 27 (0, 0)) (by (with_reducible repeat (first | refine blk_drewN ?_ _ | refine blk_drew ?_ | refine blk_alloc ?_ _)); exact BK595.out) hb); have n5_ := Aside0.mk (below_step (by repeat (first | (with_reducible first | exact HB.out | apply below_alloc | apply pw_below_drewN | apply below_drew1 | refine below_set ?_ GE583.out | refine below_set ?_ GE595.out) | exact HB.out)) hb); clear HO_584004; clear HO_596004; clear BK583; clear BK595; clear HB; have HO_584004 := n0_; have HO_596004 := n1_; have HO609 := n2_; have BK583 := n3_; have BK595 := n4_; have HB := n5_; clear n0_ n1_ n2_ n3_ n4_ n5_; (try clear hb); (try clear hb2); (try clear hk); (try clear hi); (try clear ho0)))
            go_ret
            exact ⟨by first | rfl | (simp [errW_none, errW_some] <;> rfl) | (simp [*, errW_none, errW_some] <;> rfl), by repeat (first | (with_reducible first | exact HB.out | apply below_alloc | apply pw_below_drewN | apply below_drew1 | refine below_set ?_ GE583.out | refine below_set ?_ GE595.out) | exact HB.out)⟩
def surmiselaw10_CodecOnce.Pure : Prop := ∀ (a0 : ByteArray) (a1 : Int), a0.size ≤ 140737488351232 → (Lit.int .i64 a1).wf = true → ∃ k, surmiselaw10_CodecOnce.f k a0 a1 = some true
theorem surmiselaw10_CodecOnce.walk (P : surmiselaw10_CodecOnce.Pure) (a0 : ByteArray) (a1 : Int) (w : World) (w0 : a0.size ≤ 140737488351232) (w1 : (Lit.int .i64 a1).wf = true) :
  Calls Try.prog 5 #[.string a0, .int .i64 a1] w fun e w' => e = .returned (.bool true) ∧ Below w.heap.size w w' := by
 obtain ⟨k, h⟩ := P a0 a1 w0 w1
 refine (surmiselaw10_CodecOnce.calls k a0 a1 true w h).mono ?_
 rintro e w' ⟨rfl, hd⟩
 exact ⟨rfl, hd⟩
end Go.Proofs.Ytbfehjncllkogaa.Q
