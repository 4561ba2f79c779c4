/- Texts of this session laid together (shrink.py): what the claim's law rests on. -/
import Derived.Below
import Derived.Deep.Draws
import Derived.Deep.AppendLies
import Derived.Maps.AppendAt
import Derived.OwnWalk
import Derived.Laws.BytesArg
import Derived.Laws.MakeOwn
import Derived.Laws.OwnMore
import Derived.Deep.OwnRows
import Derived.Tactics
import Derived.Lib.ConvBytes
import Derived.Laws.Slices
import Derived.WalkKit
import Derived.KernelRfl
import Derived.RowKit3
import Derived.Deep.LoopGhost
import Derived.Deep.QuietTactic
import Derived.BigQuiet
import Derived.WideLaws
import Derived.Deep.DeepCutAuto
import Derived.Deep.CutBlock
import Derived.Deep.RegionHeld3
import Derived.Laws.Rows
import Derived.Lib.AppendStr
import Derived.ArgAppend
import Derived.Laws.IdiomCopy
import Derived.RowKit
import Derived.OrdersHeld
import Derived.Laws.BitsLemmas
import Derived.Laws.StructEq
import Derived.Test.YtbfehjncllkogaaProg
import Derived.WalkMore
import Derived.Lib.Strings
import Derived.Outline
import Derived.Test.YtbfehjncllkogaaTCodecBackc
set_option linter.unusedVariables false
set_option linter.unusedSimpArgs false
set_option maxRecDepth 100000
set_option maxHeartbeats 8000000
open List renaming setIfInBounds_toArray → Vt
open List renaming set_cons_zero → Vu
open List renaming set_cons_succ → Vv
open List renaming map_toArray → Vw
open Option renaming bind_eq_some_iff → Vx
open Go.World renaming block_lt_of_cell? → Vy
open ByteArray renaming size_append → Vz
open Bool renaming eq_false_iff → VA
open List renaming length_append → VB
namespace Go.Proofs.Ytbfehjncllkogaa.Q
open Go.RowKit Go.Proofs.YtbfehjncllkogaaW.PrintWords Go.Proofs.YtbfehjncllkogaaW.PrintLast Go.Proofs.YtbfehjncllkogaaW.PrintMore
def xm.f (k : Nat) (a0 : ByteArray) (a1 : Int) : Option (Int × Int × ByteArray × Int × (List S81) × Int × Int) := (zw.f k a0 a1 0).bind fun t1 => (zw.f k t1.2.1 t1.2.2.1 t1.2.2.2).bind fun t2 => (yg.f k t2.2.1 t2.2.2.1 t2.2.2.2).bind fun t3 => (zw.f k t3.2.1 t3.2.2.1 t3.2.2.2).bind fun t4 => (zy.f k t4.2.1 t4.2.2.1 t4.2.2.2 3).bind fun t5 => if t5.2.2.2 = 0 then (yT.f k t1.1 t2.1 t3.1 t4.1 t5.1).bind fun b => if b = true then some (t1.1, t2.1, t3.1, t4.1, t5.1, t5.2.2.1, 0) else some (0, 0, (⟨#[]⟩ : ByteArray), 0, [], 0, 6) else some (0, 0, (⟨#[]⟩ : ByteArray), 0, [], 0, t5.2.2.2)
theorem xm.calls (k : Nat) (a0 : ByteArray) (a1 : Int) (r1 : Int) (r2 : Int) (r3 : ByteArray) (r4 : Int) (r5 : List S81) (r6 : Int) (r7 : Int) (w : World) (h : xm.f k a0 a1 = some (r1, r2, r3, r4, r5, r6, r7)) :
  Calls Try.prog 29 #[.string a0, .int .i64 a1] w fun e w' => ∃ v_ : Value, e = .returned (.tuple #[.agg #[.int .i64 r1, .int .i64 r2, .string r3, .int .i64 r4, v_], .int .i64 r6, .int .i64 r7]) ∧ Kd.S k81 81 w' w.heap.size (fun _ => True) v_ r5 ∧ Below w.heap.size w w' := by
 unfold xm.f at h
 have HB := za.mk (Below.refl w.heap.size w)
 rw [Vx] at h
 obtain ⟨⟨v1, s1, p1, e1⟩, hx1, h⟩ := h
 have HX1 := za.mk hx1
 clear hx1
 dsimp only at h HX1
 rw [Vx] at h
 obtain ⟨⟨v2, s2, p2, e2⟩, hx2, h⟩ := h
 have HX2 := za.mk hx2
 clear hx2
 dsimp only at h HX2
 rw [Vx] at h
 obtain ⟨⟨v3, s3, p3, e3⟩, hx3, h⟩ := h
 have HX3 := za.mk hx3
 clear hx3
 dsimp only at h HX3
 rw [Vx] at h
 obtain ⟨⟨v4, s4, p4, e4⟩, hx4, h⟩ := h
 have HX4 := za.mk hx4
 clear hx4
 dsimp only at h HX4
 rw [Vx] at h
 obtain ⟨⟨v5, s5, p5, e5⟩, hx5, h⟩ := h
 have HX5 := za.mk hx5
 clear hx5
 dsimp only at h HX5
 by_cases c0 : e5 = 0
 ·subst c0
  rw [if_pos rfl, Vx] at h
  obtain ⟨b, hb, h⟩ := h
  have HOK := za.mk hb
  clear hb
  cases b with
  | true =>
   rw [if_pos rfl] at h
   simp only [Option.some.injEq, Prod.mk.injEq] at h
   obtain ⟨rfl, rfl, rfl, rfl, rfl, rfl, rfl⟩ := h
   go_enter Try.func29, Try.ntmps29
   go_wp2_with (first | ((with_reducible refine zC (N := 4) rfl ?_); refine zF ?hg (N := 4) ?hd (cs := #[.int .i64 0, .int .i64 0, .string ⟨#[]⟩, .int .i64 0, .slice none 0 0]) (t := 27) ?hr ?_; (case hd => rfl); (case hg => rfl); (case hr => first | (go_simp; done) | (go_simp; rfl)); intro g_res hg_ w1_ hbox_ hb_; have n0_ := za.mk (zi HB.out hb_); have n1_ := za.mk ((by rw [hg_]; exact HB.out.size : w.heap.size ≤ g_res)); have n2_ := za.mk (hbox_); (try clear HB); (try clear GE_res); (try clear BK_res); have HB := n0_; have GE_res := n1_; have BK_res := n2_; clear n0_ n1_ n2_; clear hbox_ hb_ hg_; obtain ⟨hc_res_0, hc_res_1, hc_res_2, hc_res_3, hc_res_4, hf_res_0, hf_res_1, hf_res_2, hf_res_3, hf_res_4⟩ := yu BK_res.out) | ((with_reducible refine zC (N := 12) rfl ?_); refine zF ?hg (N := 12) ?hd (cs := #[.string a0, .int .i64 a1, .int .i64 0]) (t := 106) ?hr ?_; (case hd => rfl); (case hg => rfl); (case hr => first | (go_simp; done) | (go_simp; rfl)); intro g_rd hg_ w2_ hbox_ hb_; have n0_ := za.mk (zH BK_res.out hb_); have n1_ := za.mk (zi HB.out hb_); have n2_ := za.mk ((by rw [hg_]; exact HB.out.size : w.heap.size ≤ g_rd)); have n3_ := za.mk (show zf w w2_ g_rd a0 a1 0 from ⟨hbox_, by rw [hg_]; exact HB.out.size⟩); (try clear BK_res); (try clear HB); (try clear GE_rd); (try clear HI); have BK_res := n0_; have HB := n1_; have GE_rd := n2_; have HI := n3_; clear n0_ n1_ n2_ n3_; (try clear hc_res_0 hc_res_1 hc_res_2 hc_res_3 hc_res_4 hf_res_0 hf_res_1 hf_res_2 hf_res_3 hf_res_4); clear hbox_ hb_ hg_; obtain ⟨hc_res_0, hc_res_1, hc_res_2, hc_res_3, hc_res_4, hf_res_0, hf_res_1, hf_res_2, hf_res_3, hf_res_4⟩ := yu BK_res.out; obtain ⟨hc_st_0, hc_st_1, hc_st_2, hf_st_0, hf_st_1, hf_st_2⟩ := yj HI.out.1) | (go_at_call 66; (with_reducible refine (zw.calls k g_rd a0 a1 0 v1 s1 p1 e1 w _ HI.out HB.out HX1.out).mono ?_); rintro e_ w3_ ⟨rfl, hi_, hb_, hk_⟩; have n0_ := za.mk (hk_.blk BK_res.out (Ne.symm (HI.out.ne_blk BK_res.out (by decide))) (by simp)); have n1_ := za.mk (hi_); have n2_ := za.mk (hb_); (try clear BK_res); (try clear HI); (try clear HB); have BK_res := n0_; have HI := n1_; have HB := n2_; clear n0_ n1_ n2_; (try clear hc_res_0 hc_res_1 hc_res_2 hc_res_3 hc_res_4 hf_res_0 hf_res_1 hf_res_2 hf_res_3 hf_res_4); (try clear hc_st_0 hc_st_1 hc_st_2 hf_st_0 hf_st_1 hf_st_2); (try clear hi_); (try clear hb_); (try clear hk_); obtain ⟨hc_res_0, hc_res_1, hc_res_2, hc_res_3, hc_res_4, hf_res_0, hf_res_1, hf_res_2, hf_res_3, hf_res_4⟩ := yu BK_res.out; obtain ⟨hc_st_0, hc_st_1, hc_st_2, hf_st_0, hf_st_1, hf_st_2⟩ := yj HI.out.1) | (go_at_call 66; (with_reducible refine (zw.calls k g_rd s1 p1 e1 v2 s2 p2 e2 w _ HI.out HB.out HX2.out).mono ?_); rintro e_ w4_ ⟨rfl, hi_, hb_, hk_⟩; have n0_ := za.mk (hk_.blk BK_res.out (Ne.symm (HI.out.ne_blk BK_res.out (by decide))) (by simp)); have n1_ := za.mk (hi_); have n2_ := za.mk (hb_); (try clear BK_res); (try clear HI); (try clear HB); have BK_res := n0_; have HI := n1_; have HB := n2_; clear n0_ n1_ n2_; (try clear hc_res_0 hc_res_1 hc_res_2 hc_res_3 hc_res_4 hf_res_0 hf_res_1 hf_res_2 hf_res_3 hf_res_4); (try clear hc_st_0 hc_st_1 hc_st_2 hf_st_0 hf_st_1 hf_st_2); (try clear hi_); (try clear hb_); (try clear hk_); obtain ⟨hc_res_0, hc_res_1, hc_res_2, hc_res_3, hc_res_4, hf_res_0, hf_res_1, hf_res_2, hf_res_3, hf_res_4⟩ := yu BK_res.out; obtain ⟨hc_st_0, hc_st_1, hc_st_2, hf_st_0, hf_st_1, hf_st_2⟩ := yj HI.out.1) | (go_at_call 67; (with_reducible refine (yg.calls k g_rd s2 p2 e2 v3 s3 p3 e3 w _ HI.out HB.out HX3.out).mono ?_); rintro e_ w5_ ⟨rfl, hi_, hb_, hk_⟩; have n0_ := za.mk (hk_.blk BK_res.out (Ne.symm (HI.out.ne_blk BK_res.out (by decide))) (by simp)); have n1_ := za.mk (hi_); have n2_ := za.mk (hb_); (try clear BK_res); (try clear HI); (try clear HB); have BK_res := n0_; have HI := n1_; have HB := n2_; clear n0_ n1_ n2_; (try clear hc_res_0 hc_res_1 hc_res_2 hc_res_3 hc_res_4 hf_res_0 hf_res_1 hf_res_2 hf_res_3 hf_res_4); (try clear hc_st_0 hc_st_1 hc_st_2 hf_st_0 hf_st_1 hf_st_2); (try clear hi_); (try clear hb_); (try clear hk_); obtain ⟨hc_res_0, hc_res_1, hc_res_2, hc_res_3, hc_res_4, hf_res_0, hf_res_1, hf_res_2, hf_res_3, hf_res_4⟩ := yu BK_res.out; obtain ⟨hc_st_0, hc_st_1, hc_st_2, hf_st_0, hf_st_1, hf_st_2⟩ := yj HI.out.1) | (go_at_call 66; (with_reducible refine (zw.calls k g_rd s3 p3 e3 v4 s4 p4 e4 w _ HI.out HB.out HX4.out).mono ?_); rintro e_ w6_ ⟨rfl, hi_, hb_, hk_⟩; have n0_ := za.mk (hk_.blk BK_res.out (Ne.symm (HI.out.ne_blk BK_res.out (by decide))) (by simp)); have n1_ := za.mk (hi_); have n2_ := za.mk (hb_); (try clear BK_res); (try clear HI); (try clear HB); have BK_res := n0_; have HI := n1_; have HB := n2_; clear n0_ n1_ n2_; (try clear hc_res_0 hc_res_1 hc_res_2 hc_res_3 hc_res_4 hf_res_0 hf_res_1 hf_res_2 hf_res_3 hf_res_4); (try clear hc_st_0 hc_st_1 hc_st_2 hf_st_0 hf_st_1 hf_st_2); (try clear hi_); (try clear hb_); (try clear hk_); obtain ⟨hc_res_0, hc_res_1, hc_res_2, hc_res_3, hc_res_4, hf_res_0, hf_res_1, hf_res_2, hf_res_3, hf_res_4⟩ := yu BK_res.out; obtain ⟨hc_st_0, hc_st_1, hc_st_2, hf_st_0, hf_st_1, hf_st_2⟩ := yj HI.out.1) | ((with_reducible refine zC (N := 8) rfl ?_); refine zF ?hg (N := 8) ?hd (cs := #[.int .i64 0, .int .i64 0, .string ⟨#[]⟩, .int .i64 0, .slice none 0 0]) (t := 27) ?hr ?_; (case hd => rfl); (case hg => rfl); (case hr => first | (go_simp; done) | (go_simp; rfl)); intro g_c hg_ w7_ hbox_ hb_; have n0_ := za.mk (zH BK_res.out hb_); have n1_ := za.mk (HI.out.below hb_); have n2_ := za.mk (zi HB.out hb_); have n3_ := za.mk ((by rw [hg_]; exact HB.out.size : w.heap.size ≤ g_c)); have n4_ := za.mk ((by rw [hg_]; exact Nat.ne_of_lt (yq BK_res.out) : g_res ≠ g_c)); have n5_ := za.mk (hbox_); (try clear BK_res); (try clear HI); (try clear HB); (try clear GE_c); (try clear NB_res_c); (try clear BK_c); have BK_res := n0_; have HI := n1_; have HB := n2_; have GE_c := n3_; have NB_res_c := n4_; have BK_c := n5_; clear n0_ n1_ n2_ n3_ n4_ n5_; (try clear hc_res_0 hc_res_1 hc_res_2 hc_res_3 hc_res_4 hf_res_0 hf_res_1 hf_res_2 hf_res_3 hf_res_4); (try clear hc_st_0 hc_st_1 hc_st_2 hf_st_0 hf_st_1 hf_st_2); clear hbox_ hb_ hg_; obtain ⟨hc_res_0, hc_res_1, hc_res_2, hc_res_3, hc_res_4, hf_res_0, hf_res_1, hf_res_2, hf_res_3, hf_res_4⟩ := yu BK_res.out; obtain ⟨hc_c_0, hc_c_1, hc_c_2, hc_c_3, hc_c_4, hf_c_0, hf_c_1, hf_c_2, hf_c_3, hf_c_4⟩ := yu BK_c.out; obtain ⟨hc_st_0, hc_st_1, hc_st_2, hf_st_0, hf_st_1, hf_st_2⟩ := yj HI.out.1) | ((with_reducible refine yQ (t := 27) (p := 8) rfl ?_); refine yJ (t := 27) (p := 8) (v := ?vo_w8_) (w1 := (((((w7_.setCell ⟨g_c, 0, none⟩ (.int .i64 v1)).setCell ⟨g_c, 1, none⟩ (.int .i64 v2)).setCell ⟨g_c, 2, none⟩ (.string v3)).setCell ⟨g_c, 3, none⟩ (.int .i64 v4)).setCell ⟨g_c, 4, none⟩ (.slice none 0 0))) ?hg ?ho ?hn ?hr ?_; (case ho => rfl); (case hg => rfl); (case hn => rfl); (case hr => first | (go_simp; done) | (go_simp; rfl)); intro w8_ hw_; have n0_ : za (w8_.heap[g_c]? = some (.cells #[.int .i64 v1, .int .i64 v2, .string v3, .int .i64 v4, .slice none 0 0] 27 (0, 0))) := ⟨(by rw [hw_]; exact (zJ (cs' := #[.int .i64 v1, .int .i64 v2, .string v3, .int .i64 v4, .slice none 0 0]) (zJ (cs' := #[.int .i64 v1, .int .i64 v2, .string v3, .int .i64 v4, .slice none 0 0]) (zJ (cs' := #[.int .i64 v1, .int .i64 v2, .string v3, .int .i64 0, .slice none 0 0]) (zJ (cs' := #[.int .i64 v1, .int .i64 v2, .string ⟨#[]⟩, .int .i64 0, .slice none 0 0]) (zJ (cs' := #[.int .i64 v1, .int .i64 0, .string ⟨#[]⟩, .int .i64 0, .slice none 0 0]) (BK_c.out) 0 _ rfl) 1 _ rfl) 2 _ rfl) 3 _ rfl) 4 _ rfl))⟩; have n1_ : za (w8_.heap[g_res]? = some (.cells #[.int .i64 0, .int .i64 0, .string ⟨#[]⟩, .int .i64 0, .slice none 0 0] 27 (0, 0))) := ⟨(by rw [hw_]; exact (zU (p := ⟨g_c, 4, none⟩) (zU (p := ⟨g_c, 3, none⟩) (zU (p := ⟨g_c, 2, none⟩) (zU (p := ⟨g_c, 1, none⟩) (zU (p := ⟨g_c, 0, none⟩) (BK_res.out) (NB_res_c.out) _) (NB_res_c.out) _) (NB_res_c.out) _) (NB_res_c.out) _) (NB_res_c.out) _))⟩; have n2_ : za (zf w w8_ g_rd s4 p4 e4) := ⟨(by rw [hw_]; exact (zf.far (p := ⟨g_c, 4, none⟩) (zf.far (p := ⟨g_c, 3, none⟩) (zf.far (p := ⟨g_c, 2, none⟩) (zf.far (p := ⟨g_c, 1, none⟩) (zf.far (p := ⟨g_c, 0, none⟩) (HI.out) (HI.out.ne_blk BK_c.out (by decide)) _) (HI.out.ne_blk BK_c.out (by decide)) _) (HI.out.ne_blk BK_c.out (by decide)) _) (HI.out.ne_blk BK_c.out (by decide)) _) (HI.out.ne_blk BK_c.out (by decide)) _))⟩; have n3_ : za (Below w.heap.size w w8_) := ⟨(by rw [hw_]; exact (zh (g := g_c) (j := 4) (zh (g := g_c) (j := 3) (zh (g := g_c) (j := 2) (zh (g := g_c) (j := 1) (zh (g := g_c) (j := 0) (HB.out) GE_c.out) GE_c.out) GE_c.out) GE_c.out) GE_c.out))⟩; (try clear BK_c); (try clear BK_res); (try clear HI); (try clear HB); have BK_c := n0_; have BK_res := n1_; have HI := n2_; have HB := n3_; clear n0_ n1_ n2_ n3_; (try clear hc_res_0 hc_res_1 hc_res_2 hc_res_3 hc_res_4 hf_res_0 hf_res_1 hf_res_2 hf_res_3 hf_res_4); (try clear hc_c_0 hc_c_1 hc_c_2 hc_c_3 hc_c_4 hf_c_0 hf_c_1 hf_c_2 hf_c_3 hf_c_4); (try clear hc_st_0 hc_st_1 hc_st_2 hf_st_0 hf_st_1 hf_st_2); clear hw_; obtain ⟨hc_res_0, hc_res_1, hc_res_2, hc_res_3, hc_res_4, hf_res_0, hf_res_1, hf_res_2, hf_res_3, hf_res_4⟩ := yu BK_res.out; obtain ⟨hc_c_0, hc_c_1, hc_c_2, hc_c_3, hc_c_4, hf_c_0, hf_c_1, hf_c_2, hf_c_3, hf_c_4⟩ := yu BK_c.out; obtain ⟨hc_st_0, hc_st_1, hc_st_2, hf_st_0, hf_st_1, hf_st_2⟩ := yj HI.out.1) | (go_at_call 70; (with_reducible refine (zy.calls k g_rd s4 p4 e4 3 v5 s5 p5 0 w _ HI.out HB.out HX5.out).mono ?_); rintro e_ w9_ ⟨v_, rfl, hr_, hi_, hb_, hk_⟩; obtain ⟨A_l, c_l, ev_⟩ := Kd.S_slice hr_; subst ev_; have n0_ := za.mk (hk_.blk BK_res.out (Ne.symm (HI.out.ne_blk BK_res.out (by decide))) (by simp)); have n1_ := za.mk (hk_.blk BK_c.out (Ne.symm (HI.out.ne_blk BK_c.out (by decide))) (by simp)); have n2_ := za.mk (Kd.S_lower hr_ HB.out.size); have n3_ := za.mk (hi_); have n4_ := za.mk (hb_); (try clear BK_res); (try clear BK_c); (try clear HR_l); (try clear HI); (try clear HB); have BK_res := n0_; have BK_c := n1_; have HR_l := n2_; have HI := n3_; have HB := n4_; clear n0_ n1_ n2_ n3_ n4_; (try clear hc_res_0 hc_res_1 hc_res_2 hc_res_3 hc_res_4 hf_res_0 hf_res_1 hf_res_2 hf_res_3 hf_res_4); (try clear hc_c_0 hc_c_1 hc_c_2 hc_c_3 hc_c_4 hf_c_0 hf_c_1 hf_c_2 hf_c_3 hf_c_4); (try clear hc_st_0 hc_st_1 hc_st_2 hf_st_0 hf_st_1 hf_st_2); (try clear hi_); (try clear hb_); (try clear hk_); (try clear hr_); obtain ⟨hc_res_0, hc_res_1, hc_res_2, hc_res_3, hc_res_4, hf_res_0, hf_res_1, hf_res_2, hf_res_3, hf_res_4⟩ := yu BK_res.out; obtain ⟨hc_c_0, hc_c_1, hc_c_2, hc_c_3, hc_c_4, hf_c_0, hf_c_1, hf_c_2, hf_c_3, hf_c_4⟩ := yu BK_c.out; obtain ⟨hc_st_0, hc_st_1, hc_st_2, hf_st_0, hf_st_1, hf_st_2⟩ := yj HI.out.1) | ((with_reducible refine yQ (t := 25) (p := 24) rfl ?_); refine yJ (t := 25) (p := 24) (v := ?vo_w10_) (w1 := (w9_.setCell ⟨g_c, 4, none⟩ (.slice A_l v5.length c_l))) ?hg ?ho ?hn ?hr ?_; (case ho => rfl); (case hg => rfl); (case hn => rfl); (case hr => first | (go_simp; done) | (go_simp; rfl)); intro w10_ hw_; have n0_ : za (w10_.heap[g_c]? = some (.cells #[.int .i64 v1, .int .i64 v2, .string v3, .int .i64 v4, .slice A_l v5.length c_l] 27 (0, 0))) := ⟨(by rw [hw_]; exact (zJ (cs' := #[.int .i64 v1, .int .i64 v2, .string v3, .int .i64 v4, .slice A_l v5.length c_l]) (BK_c.out) 4 _ rfl))⟩; have n1_ : za (w10_.heap[g_res]? = some (.cells #[.int .i64 0, .int .i64 0, .string ⟨#[]⟩, .int .i64 0, .slice none 0 0] 27 (0, 0))) := ⟨(by rw [hw_]; exact (zU (p := ⟨g_c, 4, none⟩) (BK_res.out) (NB_res_c.out) _))⟩; have n2_ : za (zf w w10_ g_rd s5 p5 0) := ⟨(by rw [hw_]; exact (zf.far (p := ⟨g_c, 4, none⟩) (HI.out) (HI.out.ne_blk BK_c.out (by decide)) _))⟩; have n3_ : za (Kd.S k81 81 w10_ w.heap.size (fun _ => True) (.slice A_l v5.length c_l) v5) := ⟨(by rw [hw_]; exact (Kd.S_mono (Kd.S_far (p := ⟨g_c, 4, none⟩) (Kd.S_types HR_l.out BK_c.out (by decide)) (fun _ hk => hk.2) _) (fun _ hk => hk.1)))⟩; have n4_ : za (Below w.heap.size w w10_) := ⟨(by rw [hw_]; exact (zh (g := g_c) (j := 4) (HB.out) GE_c.out))⟩; (try clear BK_c); (try clear BK_res); (try clear HI); (try clear HR_l); (try clear HB); have BK_c := n0_; have BK_res := n1_; have HI := n2_; have HR_l := n3_; have HB := n4_; clear n0_ n1_ n2_ n3_ n4_; (try clear hc_res_0 hc_res_1 hc_res_2 hc_res_3 hc_res_4 hf_res_0 hf_res_1 hf_res_2 hf_res_3 hf_res_4); (try clear hc_c_0 hc_c_1 hc_c_2 hc_c_3 hc_c_4 hf_c_0 hf_c_1 hf_c_2 hf_c_3 hf_c_4); (try clear hc_st_0 hc_st_1 hc_st_2 hf_st_0 hf_st_1 hf_st_2); clear hw_; obtain ⟨hc_res_0, hc_res_1, hc_res_2, hc_res_3, hc_res_4, hf_res_0, hf_res_1, hf_res_2, hf_res_3, hf_res_4⟩ := yu BK_res.out; obtain ⟨hc_c_0, hc_c_1, hc_c_2, hc_c_3, hc_c_4, hf_c_0, hf_c_1, hf_c_2, hf_c_3, hf_c_4⟩ := yu BK_c.out; obtain ⟨hc_st_0, hc_st_1, hc_st_2, hf_st_0, hf_st_1, hf_st_2⟩ := yj HI.out.1) | (go_at_call 72; (with_reducible refine (ZM k g_rd s5 p5 v1 v2 v3 v4 A_l c_l v5 w _ HI.out HB.out (Kd.C_foot_own (Kd.S_R (HI.out.apartS HR_l.out (by decide))) (fun _ h_ => h_.2)) (Kd.S_reads' HR_l.out).2.1 HOK.out).mono ?_); rintro e_ w11_ ⟨rfl, hi_, hb_, hk_⟩; have n0_ := za.mk (hk_.blk BK_res.out (Ne.symm (HI.out.ne_blk BK_res.out (by decide))) (by simp)); have n1_ := za.mk (hk_.blk BK_c.out (Ne.symm (HI.out.ne_blk BK_c.out (by decide))) (by simp)); have n2_ := za.mk (Kd.S_mono (Kd.S_keep (HI.out.apartS HR_l.out (by decide)) hk_ (fun _ h_ => h_.2)) (fun _ h_ => h_.1)); have n3_ := za.mk (hi_); have n4_ := za.mk (hb_); (try clear BK_res); (try clear BK_c); (try clear HR_l); (try clear HI); (try clear HB); have BK_res := n0_; have BK_c := n1_; have HR_l := n2_; have HI := n3_; have HB := n4_; clear n0_ n1_ n2_ n3_ n4_; (try clear hc_res_0 hc_res_1 hc_res_2 hc_res_3 hc_res_4 hf_res_0 hf_res_1 hf_res_2 hf_res_3 hf_res_4); (try clear hc_c_0 hc_c_1 hc_c_2 hc_c_3 hc_c_4 hf_c_0 hf_c_1 hf_c_2 hf_c_3 hf_c_4); (try clear hc_st_0 hc_st_1 hc_st_2 hf_st_0 hf_st_1 hf_st_2); (try clear hi_); (try clear hb_); (try clear hk_); obtain ⟨hc_res_0, hc_res_1, hc_res_2, hc_res_3, hc_res_4, hf_res_0, hf_res_1, hf_res_2, hf_res_3, hf_res_4⟩ := yu BK_res.out; obtain ⟨hc_c_0, hc_c_1, hc_c_2, hc_c_3, hc_c_4, hf_c_0, hf_c_1, hf_c_2, hf_c_3, hf_c_4⟩ := yu BK_c.out; obtain ⟨hc_st_0, hc_st_1, hc_st_2, hf_st_0, hf_st_1, hf_st_2⟩ := yj HI.out.1) | ((with_reducible refine yQ (t := 27) (p := 4) rfl ?_); refine yJ (t := 27) (p := 4) (v := ?vo_w12_) (w1 := (((((w11_.setCell ⟨g_res, 0, none⟩ (.int .i64 v1)).setCell ⟨g_res, 1, none⟩ (.int .i64 v2)).setCell ⟨g_res, 2, none⟩ (.string v3)).setCell ⟨g_res, 3, none⟩ (.int .i64 v4)).setCell ⟨g_res, 4, none⟩ (.slice A_l v5.length c_l))) ?hg ?ho ?hn ?hr ?_; (case ho => rfl); (case hg => rfl); (case hn => rfl); (case hr => first | (go_simp; done) | (go_simp; rfl)); intro w12_ hw_; have n0_ : za (w12_.heap[g_res]? = some (.cells #[.int .i64 v1, .int .i64 v2, .string v3, .int .i64 v4, .slice A_l v5.length c_l] 27 (0, 0))) := ⟨(by rw [hw_]; exact (zJ (cs' := #[.int .i64 v1, .int .i64 v2, .string v3, .int .i64 v4, .slice A_l v5.length c_l]) (zJ (cs' := #[.int .i64 v1, .int .i64 v2, .string v3, .int .i64 v4, .slice none 0 0]) (zJ (cs' := #[.int .i64 v1, .int .i64 v2, .string v3, .int .i64 0, .slice none 0 0]) (zJ (cs' := #[.int .i64 v1, .int .i64 v2, .string ⟨#[]⟩, .int .i64 0, .slice none 0 0]) (zJ (cs' := #[.int .i64 v1, .int .i64 0, .string ⟨#[]⟩, .int .i64 0, .slice none 0 0]) (BK_res.out) 0 _ rfl) 1 _ rfl) 2 _ rfl) 3 _ rfl) 4 _ rfl))⟩; have n1_ : za (w12_.heap[g_c]? = some (.cells #[.int .i64 v1, .int .i64 v2, .string v3, .int .i64 v4, .slice A_l v5.length c_l] 27 (0, 0))) := ⟨(by rw [hw_]; exact (zU (p := ⟨g_res, 4, none⟩) (zU (p := ⟨g_res, 3, none⟩) (zU (p := ⟨g_res, 2, none⟩) (zU (p := ⟨g_res, 1, none⟩) (zU (p := ⟨g_res, 0, none⟩) (BK_c.out) (Ne.symm NB_res_c.out) _) (Ne.symm NB_res_c.out) _) (Ne.symm NB_res_c.out) _) (Ne.symm NB_res_c.out) _) (Ne.symm NB_res_c.out) _))⟩; have n2_ : za (zf w w12_ g_rd s5 p5 0) := ⟨(by rw [hw_]; exact (zf.far (p := ⟨g_res, 4, none⟩) (zf.far (p := ⟨g_res, 3, none⟩) (zf.far (p := ⟨g_res, 2, none⟩) (zf.far (p := ⟨g_res, 1, none⟩) (zf.far (p := ⟨g_res, 0, none⟩) (HI.out) (HI.out.ne_blk BK_res.out (by decide)) _) (HI.out.ne_blk BK_res.out (by decide)) _) (HI.out.ne_blk BK_res.out (by decide)) _) (HI.out.ne_blk BK_res.out (by decide)) _) (HI.out.ne_blk BK_res.out (by decide)) _))⟩; have n3_ : za (Kd.S k81 81 w12_ w.heap.size (fun _ => True) (.slice A_l v5.length c_l) v5) := ⟨(by rw [hw_]; exact (Kd.S_mono (Kd.S_far (p := ⟨g_res, 4, none⟩) (Kd.S_far (p := ⟨g_res, 3, none⟩) (Kd.S_far (p := ⟨g_res, 2, none⟩) (Kd.S_far (p := ⟨g_res, 1, none⟩) (Kd.S_far (p := ⟨g_res, 0, none⟩) (Kd.S_types HR_l.out BK_res.out (by decide)) (fun _ hk => hk.2) _) (fun _ hk => hk.2) _) (fun _ hk => hk.2) _) (fun _ hk => hk.2) _) (fun _ hk => hk.2) _) (fun _ hk => hk.1)))⟩; have n4_ : za (Below w.heap.size w w12_) := ⟨(by rw [hw_]; exact (zh (g := g_res) (j := 4) (zh (g := g_res) (j := 3) (zh (g := g_res) (j := 2) (zh (g := g_res) (j := 1) (zh (g := g_res) (j := 0) (HB.out) GE_res.out) GE_res.out) GE_res.out) GE_res.out) GE_res.out))⟩; (try clear BK_res); (try clear BK_c); (try clear HI); (try clear HR_l); (try clear HB); have BK_res := n0_; have BK_c := n1_; have HI := n2_; have HR_l := n3_; have HB := n4_; clear n0_ n1_ n2_ n3_ n4_; (try clear hc_res_0 hc_res_1 hc_res_2 hc_res_3 hc_res_4 hf_res_0 hf_res_1 hf_res_2 hf_res_3 hf_res_4); (try clear hc_c_0 hc_c_1 hc_c_2 hc_c_3 hc_c_4 hf_c_0 hf_c_1 hf_c_2 hf_c_3 hf_c_4); (try clear hc_st_0 hc_st_1 hc_st_2 hf_st_0 hf_st_1 hf_st_2); clear hw_; obtain ⟨hc_res_0, hc_res_1, hc_res_2, hc_res_3, hc_res_4, hf_res_0, hf_res_1, hf_res_2, hf_res_3, hf_res_4⟩ := yu BK_res.out; obtain ⟨hc_c_0, hc_c_1, hc_c_2, hc_c_3, hc_c_4, hf_c_0, hf_c_1, hf_c_2, hf_c_3, hf_c_4⟩ := yu BK_c.out; obtain ⟨hc_st_0, hc_st_1, hc_st_2, hf_st_0, hf_st_1, hf_st_2⟩ := yj HI.out.1))
   refine bodyPost_ret (v := .tuple #[.agg #[.int .i64 v1, .int .i64 v2, .string v3, .int .i64 v4, .slice A_l v5.length c_l], .int .i64 p5, .int .i64 0]) ?_ rfl ?_
   ·refine xf (rs := [.cell 4 27, .tmp 5, .tmp 6]) (vs := [.agg #[.int .i64 v1, .int .i64 v2, .string v3, .int .i64 v4, .slice A_l v5.length c_l], .int .i64 p5, .int .i64 0]) rfl (by simp) ?_
    exact .cell g_res 27 #[.int .i64 v1, .int .i64 v2, .string v3, .int .i64 v4, .slice A_l v5.length c_l] (0, 0) _ rfl BK_res.out Try.underlying27 rfl (by kernel_rfl) (.tmp (.tmp .nil))
   exact ⟨_, rfl, HR_l.out, HB.out⟩
  | false =>
   rw [if_neg (by decide)] at h
   simp only [Option.some.injEq, Prod.mk.injEq] at h
   obtain ⟨rfl, rfl, rfl, rfl, rfl, rfl, rfl⟩ := h
   go_enter Try.func29, Try.ntmps29
   go_wp2_with (first | ((with_reducible refine zC (N := 4) rfl ?_); refine zF ?hg (N := 4) ?hd (cs := #[.int .i64 0, .int .i64 0, .string ⟨#[]⟩, .int .i64 0, .slice none 0 0]) (t := 27) ?hr ?_; (case hd => rfl); (case hg => rfl); (case hr => first | (go_simp; done) | (go_simp; rfl)); intro g_res hg_ w1_ hbox_ hb_; have n0_ := za.mk (zi HB.out hb_); have n1_ := za.mk ((by rw [hg_]; exact HB.out.size : w.heap.size ≤ g_res)); have n2_ := za.mk (hbox_); (try clear HB); (try clear GE_res); (try clear BK_res); have HB := n0_; have GE_res := n1_; have BK_res := n2_; clear n0_ n1_ n2_; clear hbox_ hb_ hg_; obtain ⟨hc_res_0, hc_res_1, hc_res_2, hc_res_3, hc_res_4, hf_res_0, hf_res_1, hf_res_2, hf_res_3, hf_res_4⟩ := yu BK_res.out) | ((with_reducible refine zC (N := 12) rfl ?_); refine zF ?hg (N := 12) ?hd (cs := #[.string a0, .int .i64 a1, .int .i64 0]) (t := 106) ?hr ?_; (case hd => rfl); (case hg => rfl); (case hr => first | (go_simp; done) | (go_simp; rfl)); intro g_rd hg_ w2_ hbox_ hb_; have n0_ := za.mk (zH BK_res.out hb_); have n1_ := za.mk (zi HB.out hb_); have n2_ := za.mk ((by rw [hg_]; exact HB.out.size : w.heap.size ≤ g_rd)); have n3_ := za.mk (show zf w w2_ g_rd a0 a1 0 from ⟨hbox_, by rw [hg_]; exact HB.out.size⟩); (try clear BK_res); (try clear HB); (try clear GE_rd); (try clear HI); have BK_res := n0_; have HB := n1_; have GE_rd := n2_; have HI := n3_; clear n0_ n1_ n2_ n3_; (try clear hc_res_0 hc_res_1 hc_res_2 hc_res_3 hc_res_4 hf_res_0 hf_res_1 hf_res_2 hf_res_3 hf_res_4); clear hbox_ hb_ hg_; obtain ⟨hc_res_0, hc_res_1, hc_res_2, hc_res_3, hc_res_4, hf_res_0, hf_res_1, hf_res_2, hf_res_3, hf_res_4⟩ := yu BK_res.out; obtain ⟨hc_st_0, hc_st_1, hc_st_2, hf_st_0, hf_st_1, hf_st_2⟩ := yj HI.out.1) | (go_at_call 66; (with_reducible refine (zw.calls k g_rd a0 a1 0 v1 s1 p1 e1 w _ HI.out HB.out HX1.out).mono ?_); rintro e_ w3_ ⟨rfl, hi_, hb_, hk_⟩; have n0_ := za.mk (hk_.blk BK_res.out (Ne.symm (HI.out.ne_blk BK_res.out (by decide))) (by simp)); have n1_ := za.mk (hi_); have n2_ := za.mk (hb_); (try clear BK_res); (try clear HI); (try clear HB); have BK_res := n0_; have HI := n1_; have HB := n2_; clear n0_ n1_ n2_; (try clear hc_res_0 hc_res_1 hc_res_2 hc_res_3 hc_res_4 hf_res_0 hf_res_1 hf_res_2 hf_res_3 hf_res_4); (try clear hc_st_0 hc_st_1 hc_st_2 hf_st_0 hf_st_1 hf_st_2); (try clear hi_); (try clear hb_); (try clear hk_); obtain ⟨hc_res_0, hc_res_1, hc_res_2, hc_res_3, hc_res_4, hf_res_0, hf_res_1, hf_res_2, hf_res_3, hf_res_4⟩ := yu BK_res.out; obtain ⟨hc_st_0, hc_st_1, hc_st_2, hf_st_0, hf_st_1, hf_st_2⟩ := yj HI.out.1) | (go_at_call 66; (with_reducible refine (zw.calls k g_rd s1 p1 e1 v2 s2 p2 e2 w _ HI.out HB.out HX2.out).mono ?_); rintro e_ w4_ ⟨rfl, hi_, hb_, hk_⟩; have n0_ := za.mk (hk_.blk BK_res.out (Ne.symm (HI.out.ne_blk BK_res.out (by decide))) (by simp)); have n1_ := za.mk (hi_); have n2_ := za.mk (hb_); (try clear BK_res); (try clear HI); (try clear HB); have BK_res := n0_; have HI := n1_; have HB := n2_; clear n0_ n1_ n2_; (try clear hc_res_0 hc_res_1 hc_res_2 hc_res_3 hc_res_4 hf_res_0 hf_res_1 hf_res_2 hf_res_3 hf_res_4); (try clear hc_st_0 hc_st_1 hc_st_2 hf_st_0 hf_st_1 hf_st_2); (try clear hi_); (try clear hb_); (try clear hk_); obtain ⟨hc_res_0, hc_res_1, hc_res_2, hc_res_3, hc_res_4, hf_res_0, hf_res_1, hf_res_2, hf_res_3, hf_res_4⟩ := yu BK_res.out; obtain ⟨hc_st_0, hc_st_1, hc_st_2, hf_st_0, hf_st_1, hf_st_2⟩ := yj HI.out.1) | (go_at_call 67; (with_reducible refine (yg.calls k g_rd s2 p2 e2 v3 s3 p3 e3 w _ HI.out HB.out HX3.out).mono ?_); rintro e_ w5_ ⟨rfl, hi_, hb_, hk_⟩; have n0_ := za.mk (hk_.blk BK_res.out (Ne.symm (HI.out.ne_blk BK_res.out (by decide))) (by simp)); have n1_ := za.mk (hi_); have n2_ := za.mk (hb_); (try clear BK_res); (try clear HI); (try clear HB); have BK_res := n0_; have HI := n1_; have HB := n2_; clear n0_ n1_ n2_; (try clear hc_res_0 hc_res_1 hc_res_2 hc_res_3 hc_res_4 hf_res_0 hf_res_1 hf_res_2 hf_res_3 hf_res_4); (try clear hc_st_0 hc_st_1 hc_st_2 hf_st_0 hf_st_1 hf_st_2); (try clear hi_); (try clear hb_); (try clear hk_); obtain ⟨hc_res_0, hc_res_1, hc_res_2, hc_res_3, hc_res_4, hf_res_0, hf_res_1, hf_res_2, hf_res_3, hf_res_4⟩ := yu BK_res.out; obtain ⟨hc_st_0, hc_st_1, hc_st_2, hf_st_0, hf_st_1, hf_st_2⟩ := yj HI.out.1) | (go_at_call 66; (with_reducible refine (zw.calls k g_rd s3 p3 e3 v4 s4 p4 e4 w _ HI.out HB.out HX4.out).mono ?_); rintro e_ w6_ ⟨rfl, hi_, hb_, hk_⟩; have n0_ := za.mk (hk_.blk BK_res.out (Ne.symm (HI.out.ne_blk BK_res.out (by decide))) (by simp)); have n1_ := za.mk (hi_); have n2_ := za.mk (hb_); (try clear BK_res); (try clear HI); (try clear HB); have BK_res := n0_; have HI := n1_; have HB := n2_; clear n0_ n1_ n2_; (try clear hc_res_0 hc_res_1 hc_res_2 hc_res_3 hc_res_4 hf_res_0 hf_res_1 hf_res_2 hf_res_3 hf_res_4); (try clear hc_st_0 hc_st_1 hc_st_2 hf_st_0 hf_st_1 hf_st_2); (try clear hi_); (try clear hb_); (try clear hk_); obtain ⟨hc_res_0, hc_res_1, hc_res_2, hc_res_3, hc_res_4, hf_res_0, hf_res_1, hf_res_2, hf_res_3, hf_res_4⟩ := yu BK_res.out; obtain ⟨hc_st_0, hc_st_1, hc_st_2, hf_st_0, hf_st_1, hf_st_2⟩ := yj HI.out.1) | ((with_reducible refine zC (N := 8) rfl ?_); refine zF ?hg (N := 8) ?hd (cs := #[.int .i64 0, .int .i64 0, .string ⟨#[]⟩, .int .i64 0, .slice none 0 0]) (t := 27) ?hr ?_; (case hd => rfl); (case hg => rfl); (case hr => first | (go_simp; done) | (go_simp; rfl)); intro g_c hg_ w7_ hbox_ hb_; have n0_ := za.mk (zH BK_res.out hb_); have n1_ := za.mk (HI.out.below hb_); have n2_ := za.mk (zi HB.out hb_); have n3_ := za.mk ((by rw [hg_]; exact HB.out.size : w.heap.size ≤ g_c)); have n4_ := za.mk ((by rw [hg_]; exact Nat.ne_of_lt (yq BK_res.out) : g_res ≠ g_c)); have n5_ := za.mk (hbox_); (try clear BK_res); (try clear HI); (try clear HB); (try clear GE_c); (try clear NB_res_c); (try clear BK_c); have BK_res := n0_; have HI := n1_; have HB := n2_; have GE_c := n3_; have NB_res_c := n4_; have BK_c := n5_; clear n0_ n1_ n2_ n3_ n4_ n5_; (try clear hc_res_0 hc_res_1 hc_res_2 hc_res_3 hc_res_4 hf_res_0 hf_res_1 hf_res_2 hf_res_3 hf_res_4); (try clear hc_st_0 hc_st_1 hc_st_2 hf_st_0 hf_st_1 hf_st_2); clear hbox_ hb_ hg_; obtain ⟨hc_res_0, hc_res_1, hc_res_2, hc_res_3, hc_res_4, hf_res_0, hf_res_1, hf_res_2, hf_res_3, hf_res_4⟩ := yu BK_res.out; obtain ⟨hc_c_0, hc_c_1, hc_c_2, hc_c_3, hc_c_4, hf_c_0, hf_c_1, hf_c_2, hf_c_3, hf_c_4⟩ := yu BK_c.out; obtain ⟨hc_st_0, hc_st_1, hc_st_2, hf_st_0, hf_st_1, hf_st_2⟩ := yj HI.out.1) | ((with_reducible refine yQ (t := 27) (p := 8) rfl ?_); refine yJ (t := 27) (p := 8) (v := ?vo_w8_) (w1 := (((((w7_.setCell ⟨g_c, 0, none⟩ (.int .i64 v1)).setCell ⟨g_c, 1, none⟩ (.int .i64 v2)).setCell ⟨g_c, 2, none⟩ (.string v3)).setCell ⟨g_c, 3, none⟩ (.int .i64 v4)).setCell ⟨g_c, 4, none⟩ (.slice none 0 0))) ?hg ?ho ?hn ?hr ?_; (case ho => rfl); (case hg => rfl); (case hn => rfl); (case hr => first | (go_simp; done) | (go_simp; rfl)); intro w8_ hw_; have n0_ : za (w8_.heap[g_c]? = some (.cells #[.int .i64 v1, .int .i64 v2, .string v3, .int .i64 v4, .slice none 0 0] 27 (0, 0))) := ⟨(by rw [hw_]; exact (zJ (cs' := #[.int .i64 v1, .int .i64 v2, .string v3, .int .i64 v4, .slice none 0 0]) (zJ (cs' := #[.int .i64 v1, .int .i64 v2, .string v3, .int .i64 v4, .slice none 0 0]) (zJ (cs' := #[.int .i64 v1, .int .i64 v2, .string v3, .int .i64 0, .slice none 0 0]) (zJ (cs' := #[.int .i64 v1, .int .i64 v2, .string ⟨#[]⟩, .int .i64 0, .slice none 0 0]) (zJ (cs' := #[.int .i64 v1, .int .i64 0, .string ⟨#[]⟩, .int .i64 0, .slice none 0 0]) (BK_c.out) 0 _ rfl) 1 _ rfl) 2 _ rfl) 3 _ rfl) 4 _ rfl))⟩; have n1_ : za (w8_.heap[g_res]? = some (.cells #[.int .i64 0, .int .i64 0, .string ⟨#[]⟩, .int .i64 0, .slice none 0 0] 27 (0, 0))) := ⟨(by rw [hw_]; exact (zU (p := ⟨g_c, 4, none⟩) (zU (p := ⟨g_c, 3, none⟩) (zU (p := ⟨g_c, 2, none⟩) (zU (p := ⟨g_c, 1, none⟩) (zU (p := ⟨g_c, 0, none⟩) (BK_res.out) (NB_res_c.out) _) (NB_res_c.out) _) (NB_res_c.out) _) (NB_res_c.out) _) (NB_res_c.out) _))⟩; have n2_ : za (zf w w8_ g_rd s4 p4 e4) := ⟨(by rw [hw_]; exact (zf.far (p := ⟨g_c, 4, none⟩) (zf.far (p := ⟨g_c, 3, none⟩) (zf.far (p := ⟨g_c, 2, none⟩) (zf.far (p := ⟨g_c, 1, none⟩) (zf.far (p := ⟨g_c, 0, none⟩) (HI.out) (HI.out.ne_blk BK_c.out (by decide)) _) (HI.out.ne_blk BK_c.out (by decide)) _) (HI.out.ne_blk BK_c.out (by decide)) _) (HI.out.ne_blk BK_c.out (by decide)) _) (HI.out.ne_blk BK_c.out (by decide)) _))⟩; have n3_ : za (Below w.heap.size w w8_) := ⟨(by rw [hw_]; exact (zh (g := g_c) (j := 4) (zh (g := g_c) (j := 3) (zh (g := g_c) (j := 2) (zh (g := g_c) (j := 1) (zh (g := g_c) (j := 0) (HB.out) GE_c.out) GE_c.out) GE_c.out) GE_c.out) GE_c.out))⟩; (try clear BK_c); (try clear BK_res); (try clear HI); (try clear HB); have BK_c := n0_; have BK_res := n1_; have HI := n2_; have HB := n3_; clear n0_ n1_ n2_ n3_; (try clear hc_res_0 hc_res_1 hc_res_2 hc_res_3 hc_res_4 hf_res_0 hf_res_1 hf_res_2 hf_res_3 hf_res_4); (try clear hc_c_0 hc_c_1 hc_c_2 hc_c_3 hc_c_4 hf_c_0 hf_c_1 hf_c_2 hf_c_3 hf_c_4); (try clear hc_st_0 hc_st_1 hc_st_2 hf_st_0 hf_st_1 hf_st_2); clear hw_; obtain ⟨hc_res_0, hc_res_1, hc_res_2, hc_res_3, hc_res_4, hf_res_0, hf_res_1, hf_res_2, hf_res_3, hf_res_4⟩ := yu BK_res.out; obtain ⟨hc_c_0, hc_c_1, hc_c_2, hc_c_3, hc_c_4, hf_c_0, hf_c_1, hf_c_2, hf_c_3, hf_c_4⟩ := yu BK_c.out; obtain ⟨hc_st_0, hc_st_1, hc_st_2, hf_st_0, hf_st_1, hf_st_2⟩ := yj HI.out.1) | (go_at_call 70; (with_reducible refine (zy.calls k g_rd s4 p4 e4 3 v5 s5 p5 0 w _ HI.out HB.out HX5.out).mono ?_); rintro e_ w9_ ⟨v_, rfl, hr_, hi_, hb_, hk_⟩; obtain ⟨A_l, c_l, ev_⟩ := Kd.S_slice hr_; subst ev_; have n0_ := za.mk (hk_.blk BK_res.out (Ne.symm (HI.out.ne_blk BK_res.out (by decide))) (by simp)); have n1_ := za.mk (hk_.blk BK_c.out (Ne.symm (HI.out.ne_blk BK_c.out (by decide))) (by simp)); have n2_ := za.mk (Kd.S_lower hr_ HB.out.size); have n3_ := za.mk (hi_); have n4_ := za.mk (hb_); (try clear BK_res); (try clear BK_c); (try clear HR_l); (try clear HI); (try clear HB); have BK_res := n0_; have BK_c := n1_; have HR_l := n2_; have HI := n3_; have HB := n4_; clear n0_ n1_ n2_ n3_ n4_; (try clear hc_res_0 hc_res_1 hc_res_2 hc_res_3 hc_res_4 hf_res_0 hf_res_1 hf_res_2 hf_res_3 hf_res_4); (try clear hc_c_0 hc_c_1 hc_c_2 hc_c_3 hc_c_4 hf_c_0 hf_c_1 hf_c_2 hf_c_3 hf_c_4); (try clear hc_st_0 hc_st_1 hc_st_2 hf_st_0 hf_st_1 hf_st_2); (try clear hi_); (try clear hb_); (try clear hk_); (try clear hr_); obtain ⟨hc_res_0, hc_res_1, hc_res_2, hc_res_3, hc_res_4, hf_res_0, hf_res_1, hf_res_2, hf_res_3, hf_res_4⟩ := yu BK_res.out; obtain ⟨hc_c_0, hc_c_1, hc_c_2, hc_c_3, hc_c_4, hf_c_0, hf_c_1, hf_c_2, hf_c_3, hf_c_4⟩ := yu BK_c.out; obtain ⟨hc_st_0, hc_st_1, hc_st_2, hf_st_0, hf_st_1, hf_st_2⟩ := yj HI.out.1) | ((with_reducible refine yQ (t := 25) (p := 24) rfl ?_); refine yJ (t := 25) (p := 24) (v := ?vo_w10_) (w1 := (w9_.setCell ⟨g_c, 4, none⟩ (.slice A_l v5.length c_l))) ?hg ?ho ?hn ?hr ?_; (case ho => rfl); (case hg => rfl); (case hn => rfl); (case hr => first | (go_simp; done) | (go_simp; rfl)); intro w10_ hw_; have n0_ : za (w10_.heap[g_c]? = some (.cells #[.int .i64 v1, .int .i64 v2, .string v3, .int .i64 v4, .slice A_l v5.length c_l] 27 (0, 0))) := ⟨(by rw [hw_]; exact (zJ (cs' := #[.int .i64 v1, .int .i64 v2, .string v3, .int .i64 v4, .slice A_l v5.length c_l]) (BK_c.out) 4 _ rfl))⟩; have n1_ : za (w10_.heap[g_res]? = some (.cells #[.int .i64 0, .int .i64 0, .string ⟨#[]⟩, .int .i64 0, .slice none 0 0] 27 (0, 0))) := ⟨(by rw [hw_]; exact (zU (p := ⟨g_c, 4, none⟩) (BK_res.out) (NB_res_c.out) _))⟩; have n2_ : za (zf w w10_ g_rd s5 p5 0) := ⟨(by rw [hw_]; exact (zf.far (p := ⟨g_c, 4, none⟩) (HI.out) (HI.out.ne_blk BK_c.out (by decide)) _))⟩; have n3_ : za (Kd.S k81 81 w10_ w.heap.size (fun _ => True) (.slice A_l v5.length c_l) v5) := ⟨(by rw [hw_]; exact (Kd.S_mono (Kd.S_far (p := ⟨g_c, 4, none⟩) (Kd.S_types HR_l.out BK_c.out (by decide)) (fun _ hk => hk.2) _) (fun _ hk => hk.1)))⟩; have n4_ : za (Below w.heap.size w w10_) := ⟨(by rw [hw_]; exact (zh (g := g_c) (j := 4) (HB.out) GE_c.out))⟩; (try clear BK_c); (try clear BK_res); (try clear HI); (try clear HR_l); (try clear HB); have BK_c := n0_; have BK_res := n1_; have HI := n2_; have HR_l := n3_; have HB := n4_; clear n0_ n1_ n2_ n3_ n4_; (try clear hc_res_0 hc_res_1 hc_res_2 hc_res_3 hc_res_4 hf_res_0 hf_res_1 hf_res_2 hf_res_3 hf_res_4); (try clear hc_c_0 hc_c_1 hc_c_2 hc_c_3 hc_c_4 hf_c_0 hf_c_1 hf_c_2 hf_c_3 hf_c_4); (try clear hc_st_0 hc_st_1 hc_st_2 hf_st_0 hf_st_1 hf_st_2); clear hw_; obtain ⟨hc_res_0, hc_res_1, hc_res_2, hc_res_3, hc_res_4, hf_res_0, hf_res_1, hf_res_2, hf_res_3, hf_res_4⟩ := yu BK_res.out; obtain ⟨hc_c_0, hc_c_1, hc_c_2, hc_c_3, hc_c_4, hf_c_0, hf_c_1, hf_c_2, hf_c_3, hf_c_4⟩ := yu BK_c.out; obtain ⟨hc_st_0, hc_st_1, hc_st_2, hf_st_0, hf_st_1, hf_st_2⟩ := yj HI.out.1) | (go_at_call 72; (with_reducible refine (ZH k g_rd s5 p5 v1 v2 v3 v4 A_l c_l v5 w _ HI.out HB.out (Kd.C_foot_own (Kd.S_R (HI.out.apartS HR_l.out (by decide))) (fun _ h_ => h_.2)) (Kd.S_reads' HR_l.out).2.1 HOK.out).mono ?_); rintro e_ w11_ ⟨rfl, hi_, hb_, hk_⟩; have n0_ := za.mk (hk_.blk BK_res.out (Ne.symm (HI.out.ne_blk BK_res.out (by decide))) (by simp)); have n1_ := za.mk (hk_.blk BK_c.out (Ne.symm (HI.out.ne_blk BK_c.out (by decide))) (by simp)); have n2_ := za.mk (Kd.S_mono (Kd.S_keep (HI.out.apartS HR_l.out (by decide)) hk_ (fun _ h_ => h_.2)) (fun _ h_ => h_.1)); have n3_ := za.mk (hi_); have n4_ := za.mk (hb_); (try clear BK_res); (try clear BK_c); (try clear HR_l); (try clear HI); (try clear HB); have BK_res := n0_; have BK_c := n1_; have HR_l := n2_; have HI := n3_; have HB := n4_; clear n0_ n1_ n2_ n3_ n4_; (try clear hc_res_0 hc_res_1 hc_res_2 hc_res_3 hc_res_4 hf_res_0 hf_res_1 hf_res_2 hf_res_3 hf_res_4); (try clear hc_c_0 hc_c_1 hc_c_2 hc_c_3 hc_c_4 hf_c_0 hf_c_1 hf_c_2 hf_c_3 hf_c_4); (try clear hc_st_0 hc_st_1 hc_st_2 hf_st_0 hf_st_1 hf_st_2); (try clear hi_); (try clear hb_); (try clear hk_); obtain ⟨hc_res_0, hc_res_1, hc_res_2, hc_res_3, hc_res_4, hf_res_0, hf_res_1, hf_res_2, hf_res_3, hf_res_4⟩ := yu BK_res.out; obtain ⟨hc_c_0, hc_c_1, hc_c_2, hc_c_3, hc_c_4, hf_c_0, hf_c_1, hf_c_2, hf_c_3, hf_c_4⟩ := yu BK_c.out; obtain ⟨hc_st_0, hc_st_1, hc_st_2, hf_st_0, hf_st_1, hf_st_2⟩ := yj HI.out.1) | ((with_reducible refine yQ (t := 27) (p := 4) rfl ?_); refine yJ (t := 27) (p := 4) (v := ?vo_w12_) (w1 := (((((w11_.setCell ⟨g_res, 0, none⟩ (.int .i64 0)).setCell ⟨g_res, 1, none⟩ (.int .i64 0)).setCell ⟨g_res, 2, none⟩ (.string ⟨#[]⟩)).setCell ⟨g_res, 3, none⟩ (.int .i64 0)).setCell ⟨g_res, 4, none⟩ (.slice none 0 0))) ?hg ?ho ?hn ?hr ?_; (case ho => rfl); (case hg => rfl); (case hn => rfl); (case hr => first | (go_simp; done) | (go_simp; rfl)); intro w12_ hw_; have n0_ : za (w12_.heap[g_res]? = some (.cells #[.int .i64 0, .int .i64 0, .string ⟨#[]⟩, .int .i64 0, .slice none 0 0] 27 (0, 0))) := ⟨(by rw [hw_]; exact (zJ (cs' := #[.int .i64 0, .int .i64 0, .string ⟨#[]⟩, .int .i64 0, .slice none 0 0]) (zJ (cs' := #[.int .i64 0, .int .i64 0, .string ⟨#[]⟩, .int .i64 0, .slice none 0 0]) (zJ (cs' := #[.int .i64 0, .int .i64 0, .string ⟨#[]⟩, .int .i64 0, .slice none 0 0]) (zJ (cs' := #[.int .i64 0, .int .i64 0, .string ⟨#[]⟩, .int .i64 0, .slice none 0 0]) (zJ (cs' := #[.int .i64 0, .int .i64 0, .string ⟨#[]⟩, .int .i64 0, .slice none 0 0]) (BK_res.out) 0 _ rfl) 1 _ rfl) 2 _ rfl) 3 _ rfl) 4 _ rfl))⟩; have n1_ : za (w12_.heap[g_c]? = some (.cells #[.int .i64 v1, .int .i64 v2, .string v3, .int .i64 v4, .slice A_l v5.length c_l] 27 (0, 0))) := ⟨(by rw [hw_]; exact (zU (p := ⟨g_res, 4, none⟩) (zU (p := ⟨g_res, 3, none⟩) (zU (p := ⟨g_res, 2, none⟩) (zU (p := ⟨g_res, 1, none⟩) (zU (p := ⟨g_res, 0, none⟩) (BK_c.out) (Ne.symm NB_res_c.out) _) (Ne.symm NB_res_c.out) _) (Ne.symm NB_res_c.out) _) (Ne.symm NB_res_c.out) _) (Ne.symm NB_res_c.out) _))⟩; have n2_ : za (zf w w12_ g_rd s5 p5 6) := ⟨(by rw [hw_]; exact (zf.far (p := ⟨g_res, 4, none⟩) (zf.far (p := ⟨g_res, 3, none⟩) (zf.far (p := ⟨g_res, 2, none⟩) (zf.far (p := ⟨g_res, 1, none⟩) (zf.far (p := ⟨g_res, 0, none⟩) (HI.out) (HI.out.ne_blk BK_res.out (by decide)) _) (HI.out.ne_blk BK_res.out (by decide)) _) (HI.out.ne_blk BK_res.out (by decide)) _) (HI.out.ne_blk BK_res.out (by decide)) _) (HI.out.ne_blk BK_res.out (by decide)) _))⟩; have n3_ : za (Kd.S k81 81 w12_ w.heap.size (fun _ => True) (.slice A_l v5.length c_l) v5) := ⟨(by rw [hw_]; exact (Kd.S_mono (Kd.S_far (p := ⟨g_res, 4, none⟩) (Kd.S_far (p := ⟨g_res, 3, none⟩) (Kd.S_far (p := ⟨g_res, 2, none⟩) (Kd.S_far (p := ⟨g_res, 1, none⟩) (Kd.S_far (p := ⟨g_res, 0, none⟩) (Kd.S_types HR_l.out BK_res.out (by decide)) (fun _ hk => hk.2) _) (fun _ hk => hk.2) _) (fun _ hk => hk.2) _) (fun _ hk => hk.2) _) (fun _ hk => hk.2) _) (fun _ hk => hk.1)))⟩; have n4_ : za (Below w.heap.size w w12_) := ⟨(by rw [hw_]; exact (zh (g := g_res) (j := 4) (zh (g := g_res) (j := 3) (zh (g := g_res) (j := 2) (zh (g := g_res) (j := 1) (zh (g := g_res) (j := 0) (HB.out) GE_res.out) GE_res.out) GE_res.out) GE_res.out) GE_res.out))⟩; (try clear BK_res); (try clear BK_c); (try clear HI); (try clear HR_l); (try clear HB); have BK_res := n0_; have BK_c := n1_; have HI := n2_; have HR_l := n3_; have HB := n4_; clear n0_ n1_ n2_ n3_ n4_; (try clear hc_res_0 hc_res_1 hc_res_2 hc_res_3 hc_res_4 hf_res_0 hf_res_1 hf_res_2 hf_res_3 hf_res_4); (try clear hc_c_0 hc_c_1 hc_c_2 hc_c_3 hc_c_4 hf_c_0 hf_c_1 hf_c_2 hf_c_3 hf_c_4); (try clear hc_st_0 hc_st_1 hc_st_2 hf_st_0 hf_st_1 hf_st_2); clear hw_; obtain ⟨hc_res_0, hc_res_1, hc_res_2, hc_res_3, hc_res_4, hf_res_0, hf_res_1, hf_res_2, hf_res_3, hf_res_4⟩ := yu BK_res.out; obtain ⟨hc_c_0, hc_c_1, hc_c_2, hc_c_3, hc_c_4, hf_c_0, hf_c_1, hf_c_2, hf_c_3, hf_c_4⟩ := yu BK_c.out; obtain ⟨hc_st_0, hc_st_1, hc_st_2, hf_st_0, hf_st_1, hf_st_2⟩ := yj HI.out.1))
   refine bodyPost_ret (v := .tuple #[.agg #[.int .i64 0, .int .i64 0, .string ⟨#[]⟩, .int .i64 0, .slice none 0 0], .int .i64 0, .int .i64 6]) ?_ rfl ?_
   ·refine xf (rs := [.cell 4 27, .tmp 5, .tmp 6]) (vs := [.agg #[.int .i64 0, .int .i64 0, .string ⟨#[]⟩, .int .i64 0, .slice none 0 0], .int .i64 0, .int .i64 6]) rfl (by simp) ?_
    exact .cell g_res 27 #[.int .i64 0, .int .i64 0, .string ⟨#[]⟩, .int .i64 0, .slice none 0 0] (0, 0) _ rfl BK_res.out Try.underlying27 rfl (by kernel_rfl) (.tmp (.tmp .nil))
   exact ⟨_, rfl, Kd.S_nil _ _ _ _ _, HB.out⟩
 ·rw [if_neg c0] at h
  simp only [Option.some.injEq, Prod.mk.injEq] at h
  obtain ⟨rfl, rfl, rfl, rfl, rfl, rfl, rfl⟩ := h
  have C0 := za.mk c0
  clear c0
  go_enter Try.func29, Try.ntmps29
  go_wp2_with (first | ((with_reducible refine zC (N := 4) rfl ?_); refine zF ?hg (N := 4) ?hd (cs := #[.int .i64 0, .int .i64 0, .string ⟨#[]⟩, .int .i64 0, .slice none 0 0]) (t := 27) ?hr ?_; (case hd => rfl); (case hg => rfl); (case hr => first | (go_simp; done) | (go_simp; rfl)); intro g_res hg_ w1_ hbox_ hb_; have n0_ := za.mk (zi HB.out hb_); have n1_ := za.mk ((by rw [hg_]; exact HB.out.size : w.heap.size ≤ g_res)); have n2_ := za.mk (hbox_); (try clear HB); (try clear GE_res); (try clear BK_res); have HB := n0_; have GE_res := n1_; have BK_res := n2_; clear n0_ n1_ n2_; clear hbox_ hb_ hg_; obtain ⟨hc_res_0, hc_res_1, hc_res_2, hc_res_3, hc_res_4, hf_res_0, hf_res_1, hf_res_2, hf_res_3, hf_res_4⟩ := yu BK_res.out) | ((with_reducible refine zC (N := 12) rfl ?_); refine zF ?hg (N := 12) ?hd (cs := #[.string a0, .int .i64 a1, .int .i64 0]) (t := 106) ?hr ?_; (case hd => rfl); (case hg => rfl); (case hr => first | (go_simp; done) | (go_simp; rfl)); intro g_rd hg_ w2_ hbox_ hb_; have n0_ := za.mk (zH BK_res.out hb_); have n1_ := za.mk (zi HB.out hb_); have n2_ := za.mk ((by rw [hg_]; exact HB.out.size : w.heap.size ≤ g_rd)); have n3_ := za.mk (show zf w w2_ g_rd a0 a1 0 from ⟨hbox_, by rw [hg_]; exact HB.out.size⟩); (try clear BK_res); (try clear HB); (try clear GE_rd); (try clear HI); have BK_res := n0_; have HB := n1_; have GE_rd := n2_; have HI := n3_; clear n0_ n1_ n2_ n3_; (try clear hc_res_0 hc_res_1 hc_res_2 hc_res_3 hc_res_4 hf_res_0 hf_res_1 hf_res_2 hf_res_3 hf_res_4); clear hbox_ hb_ hg_; obtain ⟨hc_res_0, hc_res_1, hc_res_2, hc_res_3, hc_res_4, hf_res_0, hf_res_1, hf_res_2, hf_res_3, hf_res_4⟩ := yu BK_res.out; obtain ⟨hc_st_0, hc_st_1, hc_st_2, hf_st_0, hf_st_1, hf_st_2⟩ := yj HI.out.1) | (go_at_call 66; (with_reducible refine (zw.calls k g_rd a0 a1 0 v1 s1 p1 e1 w _ HI.out HB.out HX1.out).mono ?_); rintro e_ w3_ ⟨rfl, hi_, hb_, hk_⟩; have n0_ := za.mk (hk_.blk BK_res.out (Ne.symm (HI.out.ne_blk BK_res.out (by decide))) (by simp)); have n1_ := za.mk (hi_); have n2_ := za.mk (hb_); (try clear BK_res); (try clear HI); (try clear HB); have BK_res := n0_; have HI := n1_; have HB := n2_; clear n0_ n1_ n2_; (try clear hc_res_0 hc_res_1 hc_res_2 hc_res_3 hc_res_4 hf_res_0 hf_res_1 hf_res_2 hf_res_3 hf_res_4); (try clear hc_st_0 hc_st_1 hc_st_2 hf_st_0 hf_st_1 hf_st_2); (try clear hi_); (try clear hb_); (try clear hk_); obtain ⟨hc_res_0, hc_res_1, hc_res_2, hc_res_3, hc_res_4, hf_res_0, hf_res_1, hf_res_2, hf_res_3, hf_res_4⟩ := yu BK_res.out; obtain ⟨hc_st_0, hc_st_1, hc_st_2, hf_st_0, hf_st_1, hf_st_2⟩ := yj HI.out.1) | (go_at_call 66; (with_reducible refine (zw.calls k g_rd s1 p1 e1 v2 s2 p2 e2 w _ HI.out HB.out HX2.out).mono ?_); rintro e_ w4_ ⟨rfl, hi_, hb_, hk_⟩; have n0_ := za.mk (hk_.blk BK_res.out (Ne.symm (HI.out.ne_blk BK_res.out (by decide))) (by simp)); have n1_ := za.mk (hi_); have n2_ := za.mk (hb_); (try clear BK_res); (try clear HI); (try clear HB); have BK_res := n0_; have HI := n1_; have HB := n2_; clear n0_ n1_ n2_; (try clear hc_res_0 hc_res_1 hc_res_2 hc_res_3 hc_res_4 hf_res_0 hf_res_1 hf_res_2 hf_res_3 hf_res_4); (try clear hc_st_0 hc_st_1 hc_st_2 hf_st_0 hf_st_1 hf_st_2); (try clear hi_); (try clear hb_); (try clear hk_); obtain ⟨hc_res_0, hc_res_1, hc_res_2, hc_res_3, hc_res_4, hf_res_0, hf_res_1, hf_res_2, hf_res_3, hf_res_4⟩ := yu BK_res.out; obtain ⟨hc_st_0, hc_st_1, hc_st_2, hf_st_0, hf_st_1, hf_st_2⟩ := yj HI.out.1) | (go_at_call 67; (with_reducible refine (yg.calls k g_rd s2 p2 e2 v3 s3 p3 e3 w _ HI.out HB.out HX3.out).mono ?_); rintro e_ w5_ ⟨rfl, hi_, hb_, hk_⟩; have n0_ := za.mk (hk_.blk BK_res.out (Ne.symm (HI.out.ne_blk BK_res.out (by decide))) (by simp)); have n1_ := za.mk (hi_); have n2_ := za.mk (hb_); (try clear BK_res); (try clear HI); (try clear HB); have BK_res := n0_; have HI := n1_; have HB := n2_; clear n0_ n1_ n2_; (try clear hc_res_0 hc_res_1 hc_res_2 hc_res_3 hc_res_4 hf_res_0 hf_res_1 hf_res_2 hf_res_3 hf_res_4); (try clear hc_st_0 hc_st_1 hc_st_2 hf_st_0 hf_st_1 hf_st_2); (try clear hi_); (try clear hb_); (try clear hk_); obtain ⟨hc_res_0, hc_res_1, hc_res_2, hc_res_3, hc_res_4, hf_res_0, hf_res_1, hf_res_2, hf_res_3, hf_res_4⟩ := yu BK_res.out; obtain ⟨hc_st_0, hc_st_1, hc_st_2, hf_st_0, hf_st_1, hf_st_2⟩ := yj HI.out.1) | (go_at_call 66; (with_reducible refine (zw.calls k g_rd s3 p3 e3 v4 s4 p4 e4 w _ HI.out HB.out HX4.out).mono ?_); rintro e_ w6_ ⟨rfl, hi_, hb_, hk_⟩; have n0_ := za.mk (hk_.blk BK_res.out (Ne.symm (HI.out.ne_blk BK_res.out (by decide))) (by simp)); have n1_ := za.mk (hi_); have n2_ := za.mk (hb_); (try clear BK_res); (try clear HI); (try clear HB); have BK_res := n0_; have HI := n1_; have HB := n2_; clear n0_ n1_ n2_; (try clear hc_res_0 hc_res_1 hc_res_2 hc_res_3 hc_res_4 hf_res_0 hf_res_1 hf_res_2 hf_res_3 hf_res_4); (try clear hc_st_0 hc_st_1 hc_st_2 hf_st_0 hf_st_1 hf_st_2); (try clear hi_); (try clear hb_); (try clear hk_); obtain ⟨hc_res_0, hc_res_1, hc_res_2, hc_res_3, hc_res_4, hf_res_0, hf_res_1, hf_res_2, hf_res_3, hf_res_4⟩ := yu BK_res.out; obtain ⟨hc_st_0, hc_st_1, hc_st_2, hf_st_0, hf_st_1, hf_st_2⟩ := yj HI.out.1) | ((with_reducible refine zC (N := 8) rfl ?_); refine zF ?hg (N := 8) ?hd (cs := #[.int .i64 0, .int .i64 0, .string ⟨#[]⟩, .int .i64 0, .slice none 0 0]) (t := 27) ?hr ?_; (case hd => rfl); (case hg => rfl); (case hr => first | (go_simp; done) | (go_simp; rfl)); intro g_c hg_ w7_ hbox_ hb_; have n0_ := za.mk (zH BK_res.out hb_); have n1_ := za.mk (HI.out.below hb_); have n2_ := za.mk (zi HB.out hb_); have n3_ := za.mk ((by rw [hg_]; exact HB.out.size : w.heap.size ≤ g_c)); have n4_ := za.mk ((by rw [hg_]; exact Nat.ne_of_lt (yq BK_res.out) : g_res ≠ g_c)); have n5_ := za.mk (hbox_); (try clear BK_res); (try clear HI); (try clear HB); (try clear GE_c); (try clear NB_res_c); (try clear BK_c); have BK_res := n0_; have HI := n1_; have HB := n2_; have GE_c := n3_; have NB_res_c := n4_; have BK_c := n5_; clear n0_ n1_ n2_ n3_ n4_ n5_; (try clear hc_res_0 hc_res_1 hc_res_2 hc_res_3 hc_res_4 hf_res_0 hf_res_1 hf_res_2 hf_res_3 hf_res_4); (try clear hc_st_0 hc_st_1 hc_st_2 hf_st_0 hf_st_1 hf_st_2); clear hbox_ hb_ hg_; obtain ⟨hc_res_0, hc_res_1, hc_res_2, hc_res_3, hc_res_4, hf_res_0, hf_res_1, hf_res_2, hf_res_3, hf_res_4⟩ := yu BK_res.out; obtain ⟨hc_c_0, hc_c_1, hc_c_2, hc_c_3, hc_c_4, hf_c_0, hf_c_1, hf_c_2, hf_c_3, hf_c_4⟩ := yu BK_c.out; obtain ⟨hc_st_0, hc_st_1, hc_st_2, hf_st_0, hf_st_1, hf_st_2⟩ := yj HI.out.1) | ((with_reducible refine yQ (t := 27) (p := 8) rfl ?_); refine yJ (t := 27) (p := 8) (v := ?vo_w8_) (w1 := (((((w7_.setCell ⟨g_c, 0, none⟩ (.int .i64 v1)).setCell ⟨g_c, 1, none⟩ (.int .i64 v2)).setCell ⟨g_c, 2, none⟩ (.string v3)).setCell ⟨g_c, 3, none⟩ (.int .i64 v4)).setCell ⟨g_c, 4, none⟩ (.slice none 0 0))) ?hg ?ho ?hn ?hr ?_; (case ho => rfl); (case hg => rfl); (case hn => rfl); (case hr => first | (go_simp; done) | (go_simp; rfl)); intro w8_ hw_; have n0_ : za (w8_.heap[g_c]? = some (.cells #[.int .i64 v1, .int .i64 v2, .string v3, .int .i64 v4, .slice none 0 0] 27 (0, 0))) := ⟨(by rw [hw_]; exact (zJ (cs' := #[.int .i64 v1, .int .i64 v2, .string v3, .int .i64 v4, .slice none 0 0]) (zJ (cs' := #[.int .i64 v1, .int .i64 v2, .string v3, .int .i64 v4, .slice none 0 0]) (zJ (cs' := #[.int .i64 v1, .int .i64 v2, .string v3, .int .i64 0, .slice none 0 0]) (zJ (cs' := #[.int .i64 v1, .int .i64 v2, .string ⟨#[]⟩, .int .i64 0, .slice none 0 0]) (zJ (cs' := #[.int .i64 v1, .int .i64 0, .string ⟨#[]⟩, .int .i64 0, .slice none 0 0]) (BK_c.out) 0 _ rfl) 1 _ rfl) 2 _ rfl) 3 _ rfl) 4 _ rfl))⟩; have n1_ : za (w8_.heap[g_res]? = some (.cells #[.int .i64 0, .int .i64 0, .string ⟨#[]⟩, .int .i64 0, .slice none 0 0] 27 (0, 0))) := ⟨(by rw [hw_]; exact (zU (p := ⟨g_c, 4, none⟩) (zU (p := ⟨g_c, 3, none⟩) (zU (p := ⟨g_c, 2, none⟩) (zU (p := ⟨g_c, 1, none⟩) (zU (p := ⟨g_c, 0, none⟩) (BK_res.out) (NB_res_c.out) _) (NB_res_c.out) _) (NB_res_c.out) _) (NB_res_c.out) _) (NB_res_c.out) _))⟩; have n2_ : za (zf w w8_ g_rd s4 p4 e4) := ⟨(by rw [hw_]; exact (zf.far (p := ⟨g_c, 4, none⟩) (zf.far (p := ⟨g_c, 3, none⟩) (zf.far (p := ⟨g_c, 2, none⟩) (zf.far (p := ⟨g_c, 1, none⟩) (zf.far (p := ⟨g_c, 0, none⟩) (HI.out) (HI.out.ne_blk BK_c.out (by decide)) _) (HI.out.ne_blk BK_c.out (by decide)) _) (HI.out.ne_blk BK_c.out (by decide)) _) (HI.out.ne_blk BK_c.out (by decide)) _) (HI.out.ne_blk BK_c.out (by decide)) _))⟩; have n3_ : za (Below w.heap.size w w8_) := ⟨(by rw [hw_]; exact (zh (g := g_c) (j := 4) (zh (g := g_c) (j := 3) (zh (g := g_c) (j := 2) (zh (g := g_c) (j := 1) (zh (g := g_c) (j := 0) (HB.out) GE_c.out) GE_c.out) GE_c.out) GE_c.out) GE_c.out))⟩; (try clear BK_c); (try clear BK_res); (try clear HI); (try clear HB); have BK_c := n0_; have BK_res := n1_; have HI := n2_; have HB := n3_; clear n0_ n1_ n2_ n3_; (try clear hc_res_0 hc_res_1 hc_res_2 hc_res_3 hc_res_4 hf_res_0 hf_res_1 hf_res_2 hf_res_3 hf_res_4); (try clear hc_c_0 hc_c_1 hc_c_2 hc_c_3 hc_c_4 hf_c_0 hf_c_1 hf_c_2 hf_c_3 hf_c_4); (try clear hc_st_0 hc_st_1 hc_st_2 hf_st_0 hf_st_1 hf_st_2); clear hw_; obtain ⟨hc_res_0, hc_res_1, hc_res_2, hc_res_3, hc_res_4, hf_res_0, hf_res_1, hf_res_2, hf_res_3, hf_res_4⟩ := yu BK_res.out; obtain ⟨hc_c_0, hc_c_1, hc_c_2, hc_c_3, hc_c_4, hf_c_0, hf_c_1, hf_c_2, hf_c_3, hf_c_4⟩ := yu BK_c.out; obtain ⟨hc_st_0, hc_st_1, hc_st_2, hf_st_0, hf_st_1, hf_st_2⟩ := yj HI.out.1) | (go_at_call 70; (with_reducible refine (zy.calls k g_rd s4 p4 e4 3 v5 s5 p5 e5 w _ HI.out HB.out HX5.out).mono ?_); rintro e_ w9_ ⟨v_, rfl, hr_, hi_, hb_, hk_⟩; obtain ⟨A_l, c_l, ev_⟩ := Kd.S_slice hr_; subst ev_; have n0_ := za.mk (hk_.blk BK_res.out (Ne.symm (HI.out.ne_blk BK_res.out (by decide))) (by simp)); have n1_ := za.mk (hk_.blk BK_c.out (Ne.symm (HI.out.ne_blk BK_c.out (by decide))) (by simp)); have n2_ := za.mk (Kd.S_lower hr_ HB.out.size); have n3_ := za.mk (hi_); have n4_ := za.mk (hb_); (try clear BK_res); (try clear BK_c); (try clear HR_l); (try clear HI); (try clear HB); have BK_res := n0_; have BK_c := n1_; have HR_l := n2_; have HI := n3_; have HB := n4_; clear n0_ n1_ n2_ n3_ n4_; (try clear hc_res_0 hc_res_1 hc_res_2 hc_res_3 hc_res_4 hf_res_0 hf_res_1 hf_res_2 hf_res_3 hf_res_4); (try clear hc_c_0 hc_c_1 hc_c_2 hc_c_3 hc_c_4 hf_c_0 hf_c_1 hf_c_2 hf_c_3 hf_c_4); (try clear hc_st_0 hc_st_1 hc_st_2 hf_st_0 hf_st_1 hf_st_2); (try clear hi_); (try clear hb_); (try clear hk_); (try clear hr_); obtain ⟨hc_res_0, hc_res_1, hc_res_2, hc_res_3, hc_res_4, hf_res_0, hf_res_1, hf_res_2, hf_res_3, hf_res_4⟩ := yu BK_res.out; obtain ⟨hc_c_0, hc_c_1, hc_c_2, hc_c_3, hc_c_4, hf_c_0, hf_c_1, hf_c_2, hf_c_3, hf_c_4⟩ := yu BK_c.out; obtain ⟨hc_st_0, hc_st_1, hc_st_2, hf_st_0, hf_st_1, hf_st_2⟩ := yj HI.out.1) | ((with_reducible refine yQ (t := 25) (p := 24) rfl ?_); refine yJ (t := 25) (p := 24) (v := ?vo_w10_) (w1 := (w9_.setCell ⟨g_c, 4, none⟩ (.slice A_l v5.length c_l))) ?hg ?ho ?hn ?hr ?_; (case ho => rfl); (case hg => rfl); (case hn => rfl); (case hr => first | (go_simp; done) | (go_simp; rfl)); intro w10_ hw_; have n0_ : za (w10_.heap[g_c]? = some (.cells #[.int .i64 v1, .int .i64 v2, .string v3, .int .i64 v4, .slice A_l v5.length c_l] 27 (0, 0))) := ⟨(by rw [hw_]; exact (zJ (cs' := #[.int .i64 v1, .int .i64 v2, .string v3, .int .i64 v4, .slice A_l v5.length c_l]) (BK_c.out) 4 _ rfl))⟩; have n1_ : za (w10_.heap[g_res]? = some (.cells #[.int .i64 0, .int .i64 0, .string ⟨#[]⟩, .int .i64 0, .slice none 0 0] 27 (0, 0))) := ⟨(by rw [hw_]; exact (zU (p := ⟨g_c, 4, none⟩) (BK_res.out) (NB_res_c.out) _))⟩; have n2_ : za (zf w w10_ g_rd s5 p5 e5) := ⟨(by rw [hw_]; exact (zf.far (p := ⟨g_c, 4, none⟩) (HI.out) (HI.out.ne_blk BK_c.out (by decide)) _))⟩; have n3_ : za (Kd.S k81 81 w10_ w.heap.size (fun _ => True) (.slice A_l v5.length c_l) v5) := ⟨(by rw [hw_]; exact (Kd.S_mono (Kd.S_far (p := ⟨g_c, 4, none⟩) (Kd.S_types HR_l.out BK_c.out (by decide)) (fun _ hk => hk.2) _) (fun _ hk => hk.1)))⟩; have n4_ : za (Below w.heap.size w w10_) := ⟨(by rw [hw_]; exact (zh (g := g_c) (j := 4) (HB.out) GE_c.out))⟩; (try clear BK_c); (try clear BK_res); (try clear HI); (try clear HR_l); (try clear HB); have BK_c := n0_; have BK_res := n1_; have HI := n2_; have HR_l := n3_; have HB := n4_; clear n0_ n1_ n2_ n3_ n4_; (try clear hc_res_0 hc_res_1 hc_res_2 hc_res_3 hc_res_4 hf_res_0 hf_res_1 hf_res_2 hf_res_3 hf_res_4); (try clear hc_c_0 hc_c_1 hc_c_2 hc_c_3 hc_c_4 hf_c_0 hf_c_1 hf_c_2 hf_c_3 hf_c_4); (try clear hc_st_0 hc_st_1 hc_st_2 hf_st_0 hf_st_1 hf_st_2); clear hw_; obtain ⟨hc_res_0, hc_res_1, hc_res_2, hc_res_3, hc_res_4, hf_res_0, hf_res_1, hf_res_2, hf_res_3, hf_res_4⟩ := yu BK_res.out; obtain ⟨hc_c_0, hc_c_1, hc_c_2, hc_c_3, hc_c_4, hf_c_0, hf_c_1, hf_c_2, hf_c_3, hf_c_4⟩ := yu BK_c.out; obtain ⟨hc_st_0, hc_st_1, hc_st_2, hf_st_0, hf_st_1, hf_st_2⟩ := yj HI.out.1) | (go_at_call 72; (with_reducible refine (Yu k g_rd s5 p5 v1 v2 v3 v4 A_l c_l v5 w _ e5 C0.out HI.out HB.out (Kd.C_foot_own (Kd.S_R (HI.out.apartS HR_l.out (by decide))) (fun _ h_ => h_.2)) (Kd.S_reads' HR_l.out).2.1).mono ?_); rintro e_ w11_ ⟨rfl, hi_, hb_, hk_⟩; have n0_ := za.mk (hk_.blk BK_res.out (Ne.symm (HI.out.ne_blk BK_res.out (by decide))) (by simp)); have n1_ := za.mk (hk_.blk BK_c.out (Ne.symm (HI.out.ne_blk BK_c.out (by decide))) (by simp)); have n2_ := za.mk (Kd.S_mono (Kd.S_keep (HI.out.apartS HR_l.out (by decide)) hk_ (fun _ h_ => h_.2)) (fun _ h_ => h_.1)); have n3_ := za.mk (hi_); have n4_ := za.mk (hb_); (try clear BK_res); (try clear BK_c); (try clear HR_l); (try clear HI); (try clear HB); have BK_res := n0_; have BK_c := n1_; have HR_l := n2_; have HI := n3_; have HB := n4_; clear n0_ n1_ n2_ n3_ n4_; (try clear hc_res_0 hc_res_1 hc_res_2 hc_res_3 hc_res_4 hf_res_0 hf_res_1 hf_res_2 hf_res_3 hf_res_4); (try clear hc_c_0 hc_c_1 hc_c_2 hc_c_3 hc_c_4 hf_c_0 hf_c_1 hf_c_2 hf_c_3 hf_c_4); (try clear hc_st_0 hc_st_1 hc_st_2 hf_st_0 hf_st_1 hf_st_2); (try clear hi_); (try clear hb_); (try clear hk_); obtain ⟨hc_res_0, hc_res_1, hc_res_2, hc_res_3, hc_res_4, hf_res_0, hf_res_1, hf_res_2, hf_res_3, hf_res_4⟩ := yu BK_res.out; obtain ⟨hc_c_0, hc_c_1, hc_c_2, hc_c_3, hc_c_4, hf_c_0, hf_c_1, hf_c_2, hf_c_3, hf_c_4⟩ := yu BK_c.out; obtain ⟨hc_st_0, hc_st_1, hc_st_2, hf_st_0, hf_st_1, hf_st_2⟩ := yj HI.out.1) | ((with_reducible refine yQ (t := 27) (p := 4) rfl ?_); refine yJ (t := 27) (p := 4) (v := ?vo_w12_) (w1 := (((((w11_.setCell ⟨g_res, 0, none⟩ (.int .i64 0)).setCell ⟨g_res, 1, none⟩ (.int .i64 0)).setCell ⟨g_res, 2, none⟩ (.string ⟨#[]⟩)).setCell ⟨g_res, 3, none⟩ (.int .i64 0)).setCell ⟨g_res, 4, none⟩ (.slice none 0 0))) ?hg ?ho ?hn ?hr ?_; (case ho => rfl); (case hg => rfl); (case hn => rfl); (case hr => first | (go_simp; done) | (go_simp; rfl)); intro w12_ hw_; have n0_ : za (w12_.heap[g_res]? = some (.cells #[.int .i64 0, .int .i64 0, .string ⟨#[]⟩, .int .i64 0, .slice none 0 0] 27 (0, 0))) := ⟨(by rw [hw_]; exact (zJ (cs' := #[.int .i64 0, .int .i64 0, .string ⟨#[]⟩, .int .i64 0, .slice none 0 0]) (zJ (cs' := #[.int .i64 0, .int .i64 0, .string ⟨#[]⟩, .int .i64 0, .slice none 0 0]) (zJ (cs' := #[.int .i64 0, .int .i64 0, .string ⟨#[]⟩, .int .i64 0, .slice none 0 0]) (zJ (cs' := #[.int .i64 0, .int .i64 0, .string ⟨#[]⟩, .int .i64 0, .slice none 0 0]) (zJ (cs' := #[.int .i64 0, .int .i64 0, .string ⟨#[]⟩, .int .i64 0, .slice none 0 0]) (BK_res.out) 0 _ rfl) 1 _ rfl) 2 _ rfl) 3 _ rfl) 4 _ rfl))⟩; have n1_ : za (w12_.heap[g_c]? = some (.cells #[.int .i64 v1, .int .i64 v2, .string v3, .int .i64 v4, .slice A_l v5.length c_l] 27 (0, 0))) := ⟨(by rw [hw_]; exact (zU (p := ⟨g_res, 4, none⟩) (zU (p := ⟨g_res, 3, none⟩) (zU (p := ⟨g_res, 2, none⟩) (zU (p := ⟨g_res, 1, none⟩) (zU (p := ⟨g_res, 0, none⟩) (BK_c.out) (Ne.symm NB_res_c.out) _) (Ne.symm NB_res_c.out) _) (Ne.symm NB_res_c.out) _) (Ne.symm NB_res_c.out) _) (Ne.symm NB_res_c.out) _))⟩; have n2_ : za (zf w w12_ g_rd s5 p5 e5) := ⟨(by rw [hw_]; exact (zf.far (p := ⟨g_res, 4, none⟩) (zf.far (p := ⟨g_res, 3, none⟩) (zf.far (p := ⟨g_res, 2, none⟩) (zf.far (p := ⟨g_res, 1, none⟩) (zf.far (p := ⟨g_res, 0, none⟩) (HI.out) (HI.out.ne_blk BK_res.out (by decide)) _) (HI.out.ne_blk BK_res.out (by decide)) _) (HI.out.ne_blk BK_res.out (by decide)) _) (HI.out.ne_blk BK_res.out (by decide)) _) (HI.out.ne_blk BK_res.out (by decide)) _))⟩; have n3_ : za (Kd.S k81 81 w12_ w.heap.size (fun _ => True) (.slice A_l v5.length c_l) v5) := ⟨(by rw [hw_]; exact (Kd.S_mono (Kd.S_far (p := ⟨g_res, 4, none⟩) (Kd.S_far (p := ⟨g_res, 3, none⟩) (Kd.S_far (p := ⟨g_res, 2, none⟩) (Kd.S_far (p := ⟨g_res, 1, none⟩) (Kd.S_far (p := ⟨g_res, 0, none⟩) (Kd.S_types HR_l.out BK_res.out (by decide)) (fun _ hk => hk.2) _) (fun _ hk => hk.2) _) (fun _ hk => hk.2) _) (fun _ hk => hk.2) _) (fun _ hk => hk.2) _) (fun _ hk => hk.1)))⟩; have n4_ : za (Below w.heap.size w w12_) := ⟨(by rw [hw_]; exact (zh (g := g_res) (j := 4) (zh (g := g_res) (j := 3) (zh (g := g_res) (j := 2) (zh (g := g_res) (j := 1) (zh (g := g_res) (j := 0) (HB.out) GE_res.out) GE_res.out) GE_res.out) GE_res.out) GE_res.out))⟩; (try clear BK_res); (try clear BK_c); (try clear HI); (try clear HR_l); (try clear HB); have BK_res := n0_; have BK_c := n1_; have HI := n2_; have HR_l := n3_; have HB := n4_; clear n0_ n1_ n2_ n3_ n4_; (try clear hc_res_0 hc_res_1 hc_res_2 hc_res_3 hc_res_4 hf_res_0 hf_res_1 hf_res_2 hf_res_3 hf_res_4); (try clear hc_c_0 hc_c_1 hc_c_2 hc_c_3 hc_c_4 hf_c_0 hf_c_1 hf_c_2 hf_c_3 hf_c_4); (try clear hc_st_0 hc_st_1 hc_st_2 hf_st_0 hf_st_1 hf_st_2); clear hw_; obtain ⟨hc_res_0, hc_res_1, hc_res_2, hc_res_3, hc_res_4, hf_res_0, hf_res_1, hf_res_2, hf_res_3, hf_res_4⟩ := yu BK_res.out; obtain ⟨hc_c_0, hc_c_1, hc_c_2, hc_c_3, hc_c_4, hf_c_0, hf_c_1, hf_c_2, hf_c_3, hf_c_4⟩ := yu BK_c.out; obtain ⟨hc_st_0, hc_st_1, hc_st_2, hf_st_0, hf_st_1, hf_st_2⟩ := yj HI.out.1))
  refine bodyPost_ret (v := .tuple #[.agg #[.int .i64 0, .int .i64 0, .string ⟨#[]⟩, .int .i64 0, .slice none 0 0], .int .i64 0, .int .i64 e5]) ?_ rfl ?_
  ·refine xf (rs := [.cell 4 27, .tmp 5, .tmp 6]) (vs := [.agg #[.int .i64 0, .int .i64 0, .string ⟨#[]⟩, .int .i64 0, .slice none 0 0], .int .i64 0, .int .i64 e5]) rfl (by simp) ?_
   exact .cell g_res 27 #[.int .i64 0, .int .i64 0, .string ⟨#[]⟩, .int .i64 0, .slice none 0 0] (0, 0) _ rfl BK_res.out Try.underlying27 rfl (by kernel_rfl) (.tmp (.tmp .nil))
  exact ⟨_, rfl, Kd.S_nil _ _ _ _ _, HB.out⟩
section
variable {P : Program} {ops : Array Oper} {Q : Exit → Act → World → Prop} {S : World → Prop}
def RP (P : Program) (ops : Array Oper) (Q : Exit → Act → World → Prop) (S : World → Prop) : List (Nat × Nat × Nat) → Act → World → Prop
 | [], a, w => Q .normal a w
 | (i, 0, d) :: r, a, w => ∃ o v, ops[i]? = some o ∧ o.dst = some d ∧ S w ∧ YieldsIf P ops S o v a ∧ RP P ops Q S r (a.put (some d) v) w
 | (i, 1, d) :: r, a, w => ∃ o v, ops[i]? = some o ∧ o.dst = some d ∧ Yields P ops o v a ∧ RP P ops Q S r (a.put (some d) v) w
 | (i, 2, d) :: r, a, w => ∃ o, ops[i]? = some o ∧ o.dst = some d ∧ ∀ K : Act → World → Prop, Shut (∀ a' w', S w' → (S w' → RP P ops Q S r a' w') → K a' w') → if Region.wanted o (yielded ops a.tmps) = true then Oper.wp P o a w K Q else K (a.put (some d) undef) w
 | (i, 3, d) :: r, a, w => ∃ o, ops[i]? = some o ∧ o.dst = none ∧ ∀ K : Act → World → Prop, Shut (∀ a' w', RP P ops Q S r a' w' → K a' w') → if Region.wanted o (yielded ops a.tmps) = true then Oper.wp P o a w K Q else K (a.put (none) undef) w
 | (i, 4, d) :: r, a, w => ∃ o, ops[i]? = some o ∧ o.dst = none ∧ ∀ K : Act → World → Prop, Shut (∀ a' w', S w' → (S w' → RP P ops Q S r a' w') → K a' w') → if Region.wanted o (yielded ops a.tmps) = true then Oper.wp P o a w K Q else K (a.put (none) undef) w
 | (i, _ + 5, d) :: r, a, w => ∃ o, ops[i]? = some o ∧ o.dst = some d ∧ ∀ K : Act → World → Prop, Shut (∀ a' w', RP P ops Q S r a' w' → K a' w') → if Region.wanted o (yielded ops a.tmps) = true then Oper.wp P o a w K Q else K (a.put (some d) undef) w
def qf (ops : Array Oper) (ds : List Nat) : List (Nat × Nat × Nat) → Array Bool → Bool
 | [], l => Region.ready .any ops l == []
 | (i, 0, _) :: r, l => Zf .any ops ds l (l.setIfInBounds i true) i && qf ops ds r (l.setIfInBounds i true)
 | (i, 1, _) :: r, l => Xg .any ops l (l.setIfInBounds i true) i && qf ops ds r (l.setIfInBounds i true)
 | (i, 2, _) :: r, l => (qQ .any ops l (l.setIfInBounds i true) i && !ds.contains i) && qf ops ds r (l.setIfInBounds i true)
 | (i, 3, _) :: r, l => (qQ .any ops l (l.setIfInBounds i true) i && ds.contains i) && qf ops ds r (l.setIfInBounds i true)
 | (i, 4, _) :: r, l => (qQ .any ops l (l.setIfInBounds i true) i && !ds.contains i) && qf ops ds r (l.setIfInBounds i true)
 | (i, _ + 5, _) :: r, l => (qQ .any ops l (l.setIfInBounds i true) i && ds.contains i) && qf ops ds r (l.setIfInBounds i true)
theorem RP.sound {ds : List Nat} (hQ : ∀ c t v a w, Q (.panic c) (Act.put a t v) w → Q (.panic c) a w) : ∀ (p : List (Nat × Nat × Nat)) (l : Array Bool) (a : Act) (w : World), qf ops ds p l = true → RP P ops Q S p a w → yr P .any ops Q S ds p.length l a w
 | [], l, a, w, hp, h => q4 hp h
 | (i, 0, d) :: r, l, a, w, hp, h => by
  obtain ⟨o, v, ho, hd, hS, hy, h⟩ := h
  simp only [qf, Bool.and_eq_true] at hp
  exact take_ _ ho hd hp.1 (fun c a w => hQ c _ _ a w) hy hS rfl (RP.sound hQ r _ _ _ hp.2 h)
 | (i, 1, d) :: r, l, a, w, hp, h => by
  obtain ⟨o, v, ho, hd, hy, h⟩ := h
  simp only [qf, Bool.and_eq_true] at hp
  exact zZ _ ho hd hp.1 (fun c a w => hQ c _ _ a w) hy rfl (RP.sound hQ r _ _ _ hp.2 h)
 | (i, 2, d) :: r, l, a, w, hp, h => by
  obtain ⟨o, ho, hd, h⟩ := h
  simp only [qf, Bool.and_eq_true, Bool.not_eq_true'] at hp
  exact xC _ ho hd hp.1.1 (by have := hp.1.2; simpa using this) (fun K hK => h K (fun a' w' hS' hr => hK a' w' hS' (fun hS2 => RP.sound hQ r _ _ _ hp.2 (hr hS2))))
 | (i, 3, d) :: r, l, a, w, hp, h => by
  obtain ⟨o, ho, hd, h⟩ := h
  simp only [qf, Bool.and_eq_true] at hp
  exact JM _ ho hd hp.1.1 (by have := hp.1.2; simpa using this) (fun K hK => h K (fun a' w' hr => hK a' w' (RP.sound hQ r _ _ _ hp.2 hr)))
 | (i, 4, d) :: r, l, a, w, hp, h => by
  obtain ⟨o, ho, hd, h⟩ := h
  simp only [qf, Bool.and_eq_true, Bool.not_eq_true'] at hp
  exact xC _ ho hd hp.1.1 (by have := hp.1.2; simpa using this) (fun K hK => h K (fun a' w' hS' hr => hK a' w' hS' (fun hS2 => RP.sound hQ r _ _ _ hp.2 (hr hS2))))
 | (i, _ + 5, d) :: r, l, a, w, hp, h => by
  obtain ⟨o, ho, hd, h⟩ := h
  simp only [qf, Bool.and_eq_true] at hp
  exact JM _ ho hd hp.1.1 (by have := hp.1.2; simpa using this) (fun K hK => h K (fun a' w' hr => hK a' w' (RP.sound hQ r _ _ _ hp.2 hr)))
theorem vt {id : Nat} {a : Act} {w : World} (p : List (Nat × Nat × Nat)) (ds : List Nat) (S : World → Prop) (hm : P.follows .mixedOrders = true) (hn : ops.size = p.length) (hp : qf ops ds p (Array.replicate p.length false) = true)
  (hQ : ∀ c t v a w, Q (.panic c) (Act.put a t v) w → Q (.panic c) a w) (hS : S (w.drewN 1)) (h : S (w.drewN 1) → RP P ops Q S p a (w.drewN 1)) : (Code.region id ops true).wp P Q a w :=
 qF _ hm hn rfl hS (fun hs => RP.sound hQ p _ _ _ hp (h hs))
theorem RP.take {i d : Nat} {r : List (Nat × Nat × Nat)} {a : Act} {w : World} {o : Oper} {v : Value} (ho : ops[i]? = some o) (hd : o.dst = some d) (hS : S w) (hy : YieldsIf P ops S o v a) {a' : Act} (ha : a.put (some d) v = a') (h : RP P ops Q S r a' w) : RP P ops Q S ((i, 0, d) :: r) a w := by
 subst ha
 exact ⟨o, v, ho, hd, hS, hy, h⟩
theorem RP.pure {i d : Nat} {r : List (Nat × Nat × Nat)} {a : Act} {w : World} {o : Oper} {v : Value} (ho : ops[i]? = some o) (hd : o.dst = some d) (hy : Yields P ops o v a) {a' : Act} (ha : a.put (some d) v = a') (h : RP P ops Q S r a' w) : RP P ops Q S ((i, 1, d) :: r) a w := by
 subst ha
 exact ⟨o, v, ho, hd, hy, h⟩
theorem RP.one {i d : Nat} {r : List (Nat × Nat × Nat)} {a : Act} {w : World} {o : Oper} (ho : ops[i]? = some o) (hd : o.dst = some d) (h : ∀ K : Act → World → Prop, Shut (∀ a' w', S w' → (S w' → RP P ops Q S r a' w') → K a' w') → if Region.wanted o (yielded ops a.tmps) = true then Oper.wp P o a w K Q else K (a.put (some d) undef) w) : RP P ops Q S ((i, 2, d) :: r) a w := ⟨o, ho, hd, h⟩
theorem RP.nil {a : Act} {w : World} (h : Q .normal a w) : RP P ops Q S [] a w := h
theorem RP.norm {p : List (Nat × Nat × Nat)} {a a' : Act} {w : World} (ha : a = a') (h : RP P ops Q S p a' w) : RP P ops Q S p a w := by
 subst ha
 exact h
end
attribute [local go_sem] qw qx qN qK qg qh qz qu
def xD.f (k : Nat) (a0_0 : Int) (a0_1 : Int) (l0_2 : List Int) : Option (Bool) := (xB.f k a0_0 l0_2).bind fun t351 => (if t351 = true then ((zB.f a0_1 0 1099511627776).bind fun t352 => (some t352)) else (some false))
theorem xD.calls (k : Nat) (a0_0 : Int) (a0_1 : Int) (A0_2 : Option Addr) (c0_2 : Nat) (l0_2 : List Int) (r : Bool) (w : World) (hr0_2 : Kd.C (Kd.int .i64) w A0_2 l0_2.length l0_2) (hc0_2 : l0_2.length ≤ c0_2) (h : xD.f k a0_0 a0_1 l0_2 = some r) :
  Calls Try.prog 96 #[.agg #[.int .i64 a0_0, .int .i64 a0_1, .slice A0_2 l0_2.length c0_2]] w fun e w' => e = .returned (.bool r) ∧ Below w.heap.size w w' := by
 have hu91 := Try.underlying91
 have hu81 := Try.underlying81
 have HR0_2 := za.mk hr0_2
 have HC0_2 := za.mk hc0_2
 clear hr0_2 hc0_2
 have HB := za.mk (Below.refl w.heap.size w)
 have H : ((xB.f k a0_0 l0_2).bind fun t351 => (if t351 = true then ((zB.f a0_1 0 1099511627776).bind fun t352 => (some t352)) else (some false))) = some r := h
 clear h
 replace H := Vx.mp H
 obtain ⟨t351, A20, H⟩ := H
 replace H : (if t351 = true then ((zB.f a0_1 0 1099511627776).bind fun t352 => (some t352)) else (some false)) = some r := H
 have A2 := za.mk A20
 clear A20
 by_cases c3 : t351 = true
 ·subst c3
  have H1 : ((zB.f a0_1 0 1099511627776).bind fun t352 => (some t352)) = some r := by rw [if_pos rfl] at H; exact H
  clear H
  have H := H1
  clear H1
  replace H := Vx.mp H
  obtain ⟨t352, A40, H⟩ := H
  replace H : (some t352) = some r := H
  have A4 := za.mk A40
  clear A40
  obtain rfl := Option.some.inj H
  go_enter Try.func96, Try.ntmps96
  go_wp2_with (first | ((with_reducible refine zC (N := 1) rfl ?_); refine zF ?hg (N := 1) ?hd (cs := #[.int .i64 a0_0, .int .i64 a0_1, .slice A0_2 l0_2.length c0_2]) (t := 91) ?hr ?_; (case hd => rfl); (case hg => rfl); (case hr => first | (go_simp; done) | (go_simp; rfl)); intro gb350 hg w5 hbox hb; have n0_ := za.mk (zi (by repeat (first | (with_reducible first | exact HB.out | apply zc | apply zb | apply zd) | exact HB.out)) hb); have n1_ := za.mk (hbox); have n2_ := za.mk ((by rw [hg]; exact (zp (by repeat (first | (with_reducible first | exact HB.out | apply zc | apply zb | apply zd) | exact HB.out))) : w.heap.size ≤ gb350)); have n3_ := za.mk ((by rw [hg]; exact (zp (by repeat (first | (with_reducible first | exact HB.out | apply zc | apply zb | apply zd) | exact HB.out))) : w.heap.size ≤ gb350)); clear HB; have HB := n0_; have BK350 := n1_; have GW350 := n2_; have GE350 := n3_; clear n0_ n1_ n2_ n3_; clear hb hbox hg; have hcz6_0 : w5.cell? ⟨gb350, 0, none⟩ = some (.int .i64 a0_0) := (zg BK350.out 0).trans rfl; have hcz6_1 : w5.cell? ⟨gb350, 1, none⟩ = some (.int .i64 a0_1) := (zg BK350.out 1).trans rfl; have hcz6_2 : w5.cell? ⟨gb350, 2, none⟩ = some (.slice A0_2 l0_2.length c0_2) := (zg BK350.out 2).trans rfl; have hfz6_0 := ze BK350.out 0; have hfz6_1 := ze BK350.out 1; have hfz6_2 := ze BK350.out 2) | ((with_reducible refine zL (f := 92) rfl ?_); refine z8 (some 8) rfl rfl Try.func92 (by kernel_rfl) rfl #[.agg #[.int .i64 a0_0, .slice A0_2 l0_2.length c0_2]] rfl (by (try simp only [Vw, List.map_cons, List.map_nil]); first | done | rfl | (simp only [List.length_drop, List.length_take]; rfl)) ?_; (with_reducible refine (xB.calls k a0_0 _ _ l0_2 true _ ?side1 ?side2 A2.out).mono ?_); (case side1 => repeat (first | exact (Kd.C_below HR0_2.out HB.out) | (with_reducible refine Kd.C_alloc ?_ _) | (with_reducible refine Kd.C_drewN ?_ _) | (with_reducible refine Kd.C_drew ?_))); (case side2 => exact HC0_2.out); rintro e w7 ⟨rfl, hb⟩; refine ⟨_, rfl, ?_⟩; have n0_ := za.mk (zH (g := gb350) (o := .cells #[.int .i64 a0_0, .int .i64 a0_1, .slice A0_2 l0_2.length c0_2] 91 (0, 0)) (by (with_reducible repeat (first | refine zt ?_ _ | refine zu ?_ | refine zr ?_ _)); exact BK350.out) hb); have n1_ := za.mk (zi (by repeat (first | (with_reducible first | exact HB.out | apply zc | apply zb | apply zd | refine zh ?_ GE350.out) | exact HB.out)) hb); clear BK350; clear HB; have BK350 := n0_; have HB := n1_; clear n0_ n1_; (try clear hb); (try clear hb2); (try clear hk); (try clear hi); have hcz8_0 : w7.cell? ⟨gb350, 0, none⟩ = some (.int .i64 a0_0) := (zg BK350.out 0).trans rfl; have hcz8_1 : w7.cell? ⟨gb350, 1, none⟩ = some (.int .i64 a0_1) := (zg BK350.out 1).trans rfl; have hcz8_2 : w7.cell? ⟨gb350, 2, none⟩ = some (.slice A0_2 l0_2.length c0_2) := (zg BK350.out 2).trans rfl; have hfz8_0 := ze BK350.out 0; have hfz8_1 := ze BK350.out 1; have hfz8_2 := ze BK350.out 2) | (go_at_call 90; (with_reducible refine (zB.calls a0_1 0 1099511627776 t352 _ A4.out).mono ?_); rintro e w' ⟨rfl, ⟨nd, rfl⟩⟩))
  go_ret
  exact ⟨by first | rfl | (simp [zn, zo] <;> rfl) | (simp [*, zn, zo] <;> rfl), by repeat (first | (with_reducible first | exact HB.out | apply zc | apply zb | apply zd | refine zh ?_ GE350.out) | exact HB.out)⟩
 ·replace c3 := VA.mpr c3
  subst c3
  have H1 : (some false) = some r := by rw [if_neg (show ¬ (false = true) by decide)] at H; exact H
  clear H
  have H := H1
  clear H1
  obtain rfl := Option.some.inj H
  go_enter Try.func96, Try.ntmps96
  go_wp2_with (first | ((with_reducible refine zC (N := 1) rfl ?_); refine zF ?hg (N := 1) ?hd (cs := #[.int .i64 a0_0, .int .i64 a0_1, .slice A0_2 l0_2.length c0_2]) (t := 91) ?hr ?_; (case hd => rfl); (case hg => rfl); (case hr => first | (go_simp; done) | (go_simp; rfl)); intro gb350 hg w9 hbox hb; have n0_ := za.mk (zi (by repeat (first | (with_reducible first | exact HB.out | apply zc | apply zb | apply zd) | exact HB.out)) hb); have n1_ := za.mk (hbox); have n2_ := za.mk ((by rw [hg]; exact (zp (by repeat (first | (with_reducible first | exact HB.out | apply zc | apply zb | apply zd) | exact HB.out))) : w.heap.size ≤ gb350)); have n3_ := za.mk ((by rw [hg]; exact (zp (by repeat (first | (with_reducible first | exact HB.out | apply zc | apply zb | apply zd) | exact HB.out))) : w.heap.size ≤ gb350)); clear HB; have HB := n0_; have BK350 := n1_; have GW350 := n2_; have GE350 := n3_; clear n0_ n1_ n2_ n3_; clear hb hbox hg; have hcz10_0 : w9.cell? ⟨gb350, 0, none⟩ = some (.int .i64 a0_0) := (zg BK350.out 0).trans rfl; have hcz10_1 : w9.cell? ⟨gb350, 1, none⟩ = some (.int .i64 a0_1) := (zg BK350.out 1).trans rfl; have hcz10_2 : w9.cell? ⟨gb350, 2, none⟩ = some (.slice A0_2 l0_2.length c0_2) := (zg BK350.out 2).trans rfl; have hfz10_0 := ze BK350.out 0; have hfz10_1 := ze BK350.out 1; have hfz10_2 := ze BK350.out 2) | ((with_reducible refine zL (f := 92) rfl ?_); refine z8 (some 8) rfl rfl Try.func92 (by kernel_rfl) rfl #[.agg #[.int .i64 a0_0, .slice A0_2 l0_2.length c0_2]] rfl (by (try simp only [Vw, List.map_cons, List.map_nil]); first | done | rfl | (simp only [List.length_drop, List.length_take]; rfl)) ?_; (with_reducible refine (xB.calls k a0_0 _ _ l0_2 false _ ?side1 ?side2 A2.out).mono ?_); (case side1 => repeat (first | exact (Kd.C_below HR0_2.out HB.out) | (with_reducible refine Kd.C_alloc ?_ _) | (with_reducible refine Kd.C_drewN ?_ _) | (with_reducible refine Kd.C_drew ?_))); (case side2 => exact HC0_2.out); rintro e w11 ⟨rfl, hb⟩; refine ⟨_, rfl, ?_⟩; have n0_ := za.mk (zH (g := gb350) (o := .cells #[.int .i64 a0_0, .int .i64 a0_1, .slice A0_2 l0_2.length c0_2] 91 (0, 0)) (by (with_reducible repeat (first | refine zt ?_ _ | refine zu ?_ | refine zr ?_ _)); exact BK350.out) hb); have n1_ := za.mk (zi (by repeat (first | (with_reducible first | exact HB.out | apply zc | apply zb | apply zd | refine zh ?_ GE350.out) | exact HB.out)) hb); clear BK350; clear HB; have BK350 := n0_; have HB := n1_; clear n0_ n1_; (try clear hb); (try clear hb2); (try clear hk); (try clear hi)))
  go_ret
  exact ⟨by first | rfl | (simp [zn, zo] <;> rfl) | (simp [*, zn, zo] <;> rfl), by repeat (first | (with_reducible first | exact HB.out | apply zc | apply zb | apply zd | refine zh ?_ GE350.out) | exact HB.out)⟩
def yl.l0 : Nat → List (S93) → List (S93) → Int → Int → Option (Bool)
 | 0, _, _, _, _ => none
 | k + 1, x0, x5, x6, x7 => if x7 < x6 then (if 0 ≤ x7 then (if x7 < (x5.length : Int) then ((yp.f k ((zM x5 x7).f0)).bind fun t355 => (if t355 = true then ((xD.f k ((zM x5 x7).f1.f0) ((zM x5 x7).f1.f1) ((zM x5 x7).f1.f2)).bind fun t356 => (if t356 = true then (if x7 > 0 then (if 0 ≤ (wrap64 (x7 - 1)) then (if (wrap64 (x7 - 1)) < (x0.length : Int) then (if ((Op.bytesLess (((zM x0 (wrap64 (x7 - 1))).f0).toList) (((zM x5 x7).f0).toList)) = true) then (yl.l0 k x0 x5 x6 (wrap64 (x7 + 1))) else (some false)) else (none)) else (none)) else (yl.l0 k x0 x5 x6 (wrap64 (x7 + 1)))) else (some false))) else (some false))) else (none)) else (none)) else (some (decide ((x0.length : Int) ≤ 64)))
def yl.f (k : Nat) (l0 : List (S93)) : Option (Bool) := yl.l0 k l0 l0 (l0.length : Int) 0
theorem Yd (k : Nat) (l : List S93) (i : Nat) (r : Bool) (hi : i < l.length) (h63 : i < 9223372036854775808) (h : yl.l0 k l l (l.length : Int) (wrap64 ((i : Int) + 1)) = some r) : i + 1 < 9223372036854775808 ∧ yl.l0 k l l (l.length : Int) ((i + 1 : Nat) : Int) = some r := by
 by_cases h1 : i + 1 < 9223372036854775808
 ·rw [yU (by omega) (by omega), show (i : Int) + 1 = ((i + 1 : Nat) : Int) by omega] at h
  exact ⟨h1, h⟩
 ·have e : (i : Int) + 1 = 9223372036854775808 := by omega
  have e2 : wrap64 (9223372036854775808 : Int) = -9223372036854775808 := by kernel_rfl
  rw [e, e2] at h
  cases k with
  | zero => simp [yl.l0] at h
  | succ k =>
   rw [yl.l0, if_pos (by omega), if_neg (by omega)] at h
   cases h
theorem XH (k : Nat) (l : List S93) (i : Nat) (r : Bool) (hi : i < l.length) (hs : i < 9223372036854775808) (h : yl.l0 (k + 1) l l (l.length : Int) (i : Int) = some r) :
  (yp.f k (zM l (i : Int)).f0 = some false ∧ r = false) ∨ (yp.f k (zM l (i : Int)).f0 = some true ∧ ((xD.f k (zM l (i : Int)).f1.f0 (zM l (i : Int)).f1.f1 (zM l (i : Int)).f1.f2 = some false ∧ r = false) ∨ (xD.f k (zM l (i : Int)).f1.f0 (zM l (i : Int)).f1.f1 (zM l (i : Int)).f1.f2 = some true ∧ ((i = 0 ∧ i + 1 < 9223372036854775808 ∧ yl.l0 k l l (l.length : Int) ((i + 1 : Nat) : Int) = some r) ∨ (∃ j, i = j + 1 ∧ Op.bytesLess ((zM l (j : Int)).f0).toList ((zM l (i : Int)).f0).toList = true ∧ i + 1 < 9223372036854775808 ∧ yl.l0 k l l (l.length : Int) ((i + 1 : Nat) : Int) = some r) ∨ (∃ j, i = j + 1 ∧ Op.bytesLess ((zM l (j : Int)).f0).toList ((zM l (i : Int)).f0).toList = false ∧ r = false))))) := by
 rw [yl.l0, if_pos (by omega), if_pos (by omega), if_pos (by omega), Vx] at h
 obtain ⟨b1, h1, h⟩ := h
 cases b1
 ·exact .inl ⟨h1, by simpa using h.symm⟩
 refine .inr ⟨h1, ?_⟩
 rw [if_pos rfl, Vx] at h
 obtain ⟨b2, h2, h⟩ := h
 cases b2
 ·exact .inl ⟨h2, by simpa using h.symm⟩
 refine .inr ⟨h2, ?_⟩
 rw [if_pos rfl] at h
 rcases i with _ | j
 ·rw [if_neg (by omega)] at h
  obtain ⟨q1, q2⟩ := Yd k l 0 r hi hs h
  exact .inl ⟨rfl, q1, q2⟩
 have e2 : wrap64 (((j + 1 : Nat) : Int) - 1) = (j : Int) := by rw [xR (by omega) (by omega)]; omega
 rw [if_pos (by omega), e2, if_pos (by omega), if_pos (by omega)] at h
 by_cases hb : Op.bytesLess ((zM l (j : Int)).f0).toList ((zM l ((j + 1 : Nat) : Int)).f0).toList = true
 ·rw [if_pos hb] at h
  obtain ⟨q1, q2⟩ := Yd k l (j + 1) r hi hs h
  exact .inr (.inl ⟨j, rfl, hb, q1, q2⟩)
 ·rw [if_neg hb] at h
  exact .inr (.inr ⟨j, rfl, by simpa using hb, by simpa using h.symm⟩)
theorem yl.calls (k : Nat) (A0 : Option Addr) (c0 : Nat) (l0 : List (S93)) (r : Bool) (w : World) (hr0 : Kd.C k93 w A0 l0.length l0) (hc0 : l0.length ≤ c0) (h : yl.f k l0 = some r) :
  Calls Try.prog 54 #[.slice A0 l0.length c0] w fun e w' => e = .returned (.bool r) ∧ Below w.heap.size w w' := by
 have HR0 := za.mk hr0
 have HC0 := za.mk hc0
 have H' := za.mk (show yl.l0 k l0 l0 (l0.length : Int) ((0 : Nat) : Int) = some r from h)
 clear hr0 hc0 h
 go_enter Try.func54, Try.ntmps54
 go_wp2
 go_loopg [7] k (fun kq v7 wr => ∃ i : Nat, v7 = .int .i64 i ∧ za (yl.l0 kq l0 l0 (l0.length : Int) (i : Int) = some r) ∧ za (i ≤ l0.length ∧ i < 9223372036854775808) ∧ za (kq ≤ k) ∧ za (Below w.heap.size w wr))
 case atStart => exact ⟨0, rfl, H', ⟨by omega, by omega⟩, ⟨Nat.le_refl _⟩, ⟨Below.refl _ _⟩⟩
 case round =>
  clear H'
  obtain ⟨i, rfl, HA, HI, HK1, HB⟩ := hrel
  cases gk with
  | zero => exact absurd HA.out (by simp [yl.l0])
  | succ k1 =>
   by_cases hlt : i < l0.length
   ·have HRD := za.mk (XH k1 l0 i r hlt HI.out.2 HA.out)
    have HRR := za.mk (Kd.C_below HR0.out HB.out)
    obtain ⟨ad, A3, c3, rfl, x0, x1, x2, x3, hl3, hi3⟩ := qc HRR.out (i : Int) (by omega) (by omega)
    rw [Int.toNat_natCast] at x0 x1 x2 x3
    have HV := za.mk hi3
    have HL3 := za.mk hl3
    have b0 : (0 : Int) ≤ (i : Int) := by omega
    have b1 : (i : Int) < (l0.length : Int) := by omega
    have HI1 : za (i + 1 < 9223372036854775808 → i + 1 ≤ l0.length ∧ i + 1 < 9223372036854775808) := ⟨fun h => ⟨by omega, h⟩⟩
    clear HA hi3 hl3
    go_wp2
    obtain ⟨W, hW⟩ : ∃ W, wr.alloc (.cells #[.string (zM l0 (i : Int)).f0, .int .i64 (zM l0 (i : Int)).f1.f0, .int .i64 (zM l0 (i : Int)).f1.f1, .slice A3 (zM l0 (i : Int)).f1.f2.length c3] 93 (0, 0)) = W := ⟨_, rfl⟩
    have HWW : za (Below wr.heap.size wr W) := ⟨hW ▸ zc (Below.refl _ _) _⟩
    have bx : W.heap[wr.heap.size]? = some (.cells #[.string (zM l0 (i : Int)).f0, .int .i64 (zM l0 (i : Int)).f1.f0, .int .i64 (zM l0 (i : Int)).f1.f1, .slice A3 (zM l0 (i : Int)).f1.f2.length c3] 93 (0, 0)) := hW ▸ X4 wr _
    have HCL := za.mk (fun (p : Addr) v (h : wr.cell? p = some v) => (HWW.out.cell (Vy _ _ h)).trans h)
    have HB2 := za.mk (zi HB.out HWW.out)
    have HVW := za.mk (Kd.C_below HV.out HWW.out)
    rw [hW]
    clear hW x0 x1 x2 x3 HB HV
    generalize wr.heap.size = g at *
    obtain ⟨x0, x1, x2, x3, f0, f1, f2, f3⟩ := box4 bx
    clear bx
    rcases HRD.out with ⟨hp, rfl⟩ | ⟨hp, ⟨hq, rfl⟩ | ⟨hq, ⟨hi0, h63, hn⟩ | ⟨j, hij, hbl, h63, hn⟩ | ⟨j, hij, hbl, rfl⟩⟩⟩
    case inl =>
     have HP := za.mk hp
     clear hp
     generalize (zM l0 (i : Int)).f0 = s0 at *
     generalize (zM l0 (i : Int)).f1.f0 = s1 at *
     generalize (zM l0 (i : Int)).f1.f1 = s2 at *
     generalize (zM l0 (i : Int)).f1.f2 = s3 at *
     clear HRD HRR HWW HCL
     refine vt [(0, 0, 12), (1, 0, 13), (2, 2, 14), (3, 1, 15), (4, 1, 16), (5, 1, 17), (6, 0, 18), (7, 2, 19), (8, 1, 20), (9, 1, 21), (10, 1, 22), (11, 1, 23), (12, 1, 24), (13, 1, 25), (14, 1, 26), (15, 0, 27), (16, 1, 28), (17, 1, 29), (18, 1, 30), (19, 1, 31), (20, 1, 32), (21, 0, 33), (22, 1, 34), (23, 1, 35), (24, 1, 36)] [] (fun W => W.cell? ⟨g, 0, none⟩ = some (.string s0) ∧ W.cell? ⟨g, 1, none⟩ = some (.int .i64 s1) ∧ W.cell? ⟨g, 2, none⟩ = some (.int .i64 s2) ∧ W.cell? ⟨g, 3, none⟩ = some (.slice A3 s3.length c3)) (by kernel_rfl) rfl (by kernel_rfl) (fun _ t _ _ _ h => by cases t <;> exact h) ⟨x0, x1, x2, x3⟩ (fun hS => ?_)
     repeat (first
      | (refine RP.pure (v := undef) (a' := ?_) rfl rfl (Or.inr ⟨by rfl, rfl⟩) ?_ ?_; rotate_left; (focus (simp only [Act.put, Vt, Vu, Vv, zx, zz]; rfl)))
      | (refine RP.take (v := undef) (a' := ?_) rfl rfl (by assumption) (Or.inr ⟨by rfl, rfl⟩) ?_ ?_; rotate_left; (focus (simp only [Act.put, Vt, Vu, Vv, zx, zz]; rfl)))
      | (refine RP.pure (v := ?_) (a' := ?_) rfl rfl (Or.inl ⟨by rfl, ?_⟩) ?_ ?_; rotate_left; (focus (intro w'; go_simp; with_reducible rfl)); rotate_left; (focus (simp only [Act.put, Vt, Vu, Vv, zx, zz]; rfl)))
      | (refine RP.take (v := ?_) (a' := ?_) rfl rfl (by assumption) (Or.inl ⟨by rfl, ?_⟩) ?_ ?_; rotate_left; (focus (rintro w' ⟨hS0, hS1, hS2, hS3⟩; go_simp; with_reducible rfl)); rotate_left; (focus (simp only [Act.put, Vt, Vu, Vv, zx, zz]; rfl))))
     refine RP.one rfl rfl (fun K hK => ?_)
     refine xa Try.func95 (by kernel_rfl) rfl #[.string s0] (by rfl) rfl rfl (by (try simp only [Vw, List.map_cons, List.map_nil]); first | done | rfl) ?_
     (with_reducible refine (yp.calls k1 s0 _ _ HP.out).mono ?_)
     rintro e w8 ⟨rfl, hb8⟩
     refine ⟨_, rfl, ?_⟩
     have n0 := za.mk (zi (zb HB2.out 1) hb8)
     have n1 := za.mk (Kd.C_below HVW.out (zi (zb (Below.refl _ _) 1) hb8))
     obtain ⟨z0, z1, z2, z3⟩ : w8.cell? ⟨g, 0, none⟩ = some (.string s0) ∧ w8.cell? ⟨g, 1, none⟩ = some (.int .i64 s1) ∧ w8.cell? ⟨g, 2, none⟩ = some (.int .i64 s2) ∧ w8.cell? ⟨g, 3, none⟩ = some (.slice A3 s3.length c3) := ⟨(hb8.cell (Vy _ _ x0)).trans x0, (hb8.cell (Vy _ _ x1)).trans x1, (hb8.cell (Vy _ _ x2)).trans x2, (hb8.cell (Vy _ _ x3)).trans x3⟩
     clear HB2 HVW hb8 hS
     have HB2 := n0
     have HVW := n1
     clear n0 n1
     refine hK.out _ _ ⟨z0, z1, z2, z3⟩ (fun hS => ?_)
     clear hK K
     refine RP.norm (a' := ?_) ?_ ?_
     rotate_left
     ·show Act.put _ (some 14) _ = _
      simp only [Act.put, Vt, Vu, Vv, zx, zz]
      rfl
     repeat (first
      | (refine RP.pure (v := undef) (a' := ?_) rfl rfl (Or.inr ⟨by rfl, rfl⟩) ?_ ?_; rotate_left; (focus (simp only [Act.put, Vt, Vu, Vv, zx, zz]; rfl)))
      | (refine RP.take (v := undef) (a' := ?_) rfl rfl (by assumption) (Or.inr ⟨by rfl, rfl⟩) ?_ ?_; rotate_left; (focus (simp only [Act.put, Vt, Vu, Vv, zx, zz]; rfl)))
      | (refine RP.pure (v := ?_) (a' := ?_) rfl rfl (Or.inl ⟨by rfl, ?_⟩) ?_ ?_; rotate_left; (focus (intro w'; go_simp; with_reducible rfl)); rotate_left; (focus (simp only [Act.put, Vt, Vu, Vv, zx, zz]; rfl)))
      | (refine RP.take (v := ?_) (a' := ?_) rfl rfl (by assumption) (Or.inl ⟨by rfl, ?_⟩) ?_ ?_; rotate_left; (focus (rintro w' ⟨hS0, hS1, hS2, hS3⟩; go_simp; with_reducible rfl)); rotate_left; (focus (simp only [Act.put, Vt, Vu, Vv, zx, zz]; rfl))))
     refine RP.one rfl rfl (fun K hK => ?_)
     rw [if_neg (by show ¬ (false = true); decide)]
     refine hK.out _ _ ⟨z0, z1, z2, z3⟩ (fun hS => ?_)
     clear hK K
     refine RP.norm (a' := ?_) ?_ ?_
     rotate_left
     ·show Act.put _ (some 19) _ = _
      simp only [Act.put, Vt, Vu, Vv, zx, zz]
      rfl
     repeat (first
      | (refine RP.pure (v := undef) (a' := ?_) rfl rfl (Or.inr ⟨by rfl, rfl⟩) ?_ ?_; rotate_left; (focus (simp only [Act.put, Vt, Vu, Vv, zx, zz]; rfl)))
      | (refine RP.take (v := undef) (a' := ?_) rfl rfl (by assumption) (Or.inr ⟨by rfl, rfl⟩) ?_ ?_; rotate_left; (focus (simp only [Act.put, Vt, Vu, Vv, zx, zz]; rfl)))
      | (refine RP.pure (v := ?_) (a' := ?_) rfl rfl (Or.inl ⟨by rfl, ?_⟩) ?_ ?_; rotate_left; (focus (intro w'; go_simp; with_reducible rfl)); rotate_left; (focus (simp only [Act.put, Vt, Vu, Vv, zx, zz]; rfl)))
      | (refine RP.take (v := ?_) (a' := ?_) rfl rfl (by assumption) (Or.inl ⟨by rfl, ?_⟩) ?_ ?_; rotate_left; (focus (rintro w' ⟨hS0, hS1, hS2, hS3⟩; go_simp; with_reducible rfl)); rotate_left; (focus (simp only [Act.put, Vt, Vu, Vv, zx, zz]; rfl))))
     refine RP.nil ?_
     go_wp2
     go_ret
     exact ⟨rfl, HB2.out⟩
    case inr.inl =>
     have HP := za.mk hp
     clear hp
     have HQ := za.mk hq
     clear hq
     generalize (zM l0 (i : Int)).f0 = s0 at *
     generalize (zM l0 (i : Int)).f1.f0 = s1 at *
     generalize (zM l0 (i : Int)).f1.f1 = s2 at *
     generalize (zM l0 (i : Int)).f1.f2 = s3 at *
     clear HRD HRR HWW HCL
     refine vt [(0, 0, 12), (1, 0, 13), (2, 2, 14), (3, 1, 15), (4, 1, 16), (5, 1, 17), (6, 0, 18), (7, 2, 19), (8, 1, 20), (9, 1, 21), (10, 1, 22), (11, 1, 23), (12, 1, 24), (13, 1, 25), (14, 1, 26), (15, 0, 27), (16, 1, 28), (17, 1, 29), (18, 1, 30), (19, 1, 31), (20, 1, 32), (21, 0, 33), (22, 1, 34), (23, 1, 35), (24, 1, 36)] [] (fun W => W.cell? ⟨g, 0, none⟩ = some (.string s0) ∧ W.cell? ⟨g, 1, none⟩ = some (.int .i64 s1) ∧ W.cell? ⟨g, 2, none⟩ = some (.int .i64 s2) ∧ W.cell? ⟨g, 3, none⟩ = some (.slice A3 s3.length c3)) (by kernel_rfl) rfl (by kernel_rfl) (fun _ t _ _ _ h => by cases t <;> exact h) ⟨x0, x1, x2, x3⟩ (fun hS => ?_)
     repeat (first
      | (refine RP.pure (v := undef) (a' := ?_) rfl rfl (Or.inr ⟨by rfl, rfl⟩) ?_ ?_; rotate_left; (focus (simp only [Act.put, Vt, Vu, Vv, zx, zz]; rfl)))
      | (refine RP.take (v := undef) (a' := ?_) rfl rfl (by assumption) (Or.inr ⟨by rfl, rfl⟩) ?_ ?_; rotate_left; (focus (simp only [Act.put, Vt, Vu, Vv, zx, zz]; rfl)))
      | (refine RP.pure (v := ?_) (a' := ?_) rfl rfl (Or.inl ⟨by rfl, ?_⟩) ?_ ?_; rotate_left; (focus (intro w'; go_simp; with_reducible rfl)); rotate_left; (focus (simp only [Act.put, Vt, Vu, Vv, zx, zz]; rfl)))
      | (refine RP.take (v := ?_) (a' := ?_) rfl rfl (by assumption) (Or.inl ⟨by rfl, ?_⟩) ?_ ?_; rotate_left; (focus (rintro w' ⟨hS0, hS1, hS2, hS3⟩; go_simp; with_reducible rfl)); rotate_left; (focus (simp only [Act.put, Vt, Vu, Vv, zx, zz]; rfl))))
     refine RP.one rfl rfl (fun K hK => ?_)
     refine xa Try.func95 (by kernel_rfl) rfl #[.string s0] (by rfl) rfl rfl (by (try simp only [Vw, List.map_cons, List.map_nil]); first | done | rfl) ?_
     (with_reducible refine (yp.calls k1 s0 _ _ HP.out).mono ?_)
     rintro e w8 ⟨rfl, hb8⟩
     refine ⟨_, rfl, ?_⟩
     have n0 := za.mk (zi (zb HB2.out 1) hb8)
     have n1 := za.mk (Kd.C_below HVW.out (zi (zb (Below.refl _ _) 1) hb8))
     obtain ⟨z0, z1, z2, z3⟩ : w8.cell? ⟨g, 0, none⟩ = some (.string s0) ∧ w8.cell? ⟨g, 1, none⟩ = some (.int .i64 s1) ∧ w8.cell? ⟨g, 2, none⟩ = some (.int .i64 s2) ∧ w8.cell? ⟨g, 3, none⟩ = some (.slice A3 s3.length c3) := ⟨(hb8.cell (Vy _ _ x0)).trans x0, (hb8.cell (Vy _ _ x1)).trans x1, (hb8.cell (Vy _ _ x2)).trans x2, (hb8.cell (Vy _ _ x3)).trans x3⟩
     clear HB2 HVW hb8 hS
     have HB2 := n0
     have HVW := n1
     clear n0 n1
     refine hK.out _ _ ⟨z0, z1, z2, z3⟩ (fun hS => ?_)
     clear hK K
     refine RP.norm (a' := ?_) ?_ ?_
     rotate_left
     ·show Act.put _ (some 14) _ = _
      simp only [Act.put, Vt, Vu, Vv, zx, zz]
      rfl
     repeat (first
      | (refine RP.pure (v := undef) (a' := ?_) rfl rfl (Or.inr ⟨by rfl, rfl⟩) ?_ ?_; rotate_left; (focus (simp only [Act.put, Vt, Vu, Vv, zx, zz]; rfl)))
      | (refine RP.take (v := undef) (a' := ?_) rfl rfl (by assumption) (Or.inr ⟨by rfl, rfl⟩) ?_ ?_; rotate_left; (focus (simp only [Act.put, Vt, Vu, Vv, zx, zz]; rfl)))
      | (refine RP.pure (v := ?_) (a' := ?_) rfl rfl (Or.inl ⟨by rfl, ?_⟩) ?_ ?_; rotate_left; (focus (intro w'; go_simp; with_reducible rfl)); rotate_left; (focus (simp only [Act.put, Vt, Vu, Vv, zx, zz]; rfl)))
      | (refine RP.take (v := ?_) (a' := ?_) rfl rfl (by assumption) (Or.inl ⟨by rfl, ?_⟩) ?_ ?_; rotate_left; (focus (rintro w' ⟨hS0, hS1, hS2, hS3⟩; go_simp; with_reducible rfl)); rotate_left; (focus (simp only [Act.put, Vt, Vu, Vv, zx, zz]; rfl))))
     refine RP.one rfl rfl (fun K hK => ?_)
     refine xa Try.func96 (by kernel_rfl) rfl #[.agg #[.int .i64 s1, .int .i64 s2, .slice A3 s3.length c3]] (by rfl) rfl rfl (by (try simp only [Vw, List.map_cons, List.map_nil]); first | done | rfl) ?_
     (with_reducible refine (xD.calls k1 s1 s2 A3 c3 s3 _ _ HVW.out HL3.out HQ.out).mono ?_)
     rintro e w9 ⟨rfl, hb9⟩
     refine ⟨_, rfl, ?_⟩
     have n0 := za.mk (zi HB2.out hb9)
     clear HB2 HVW
     have HB2 := n0
     clear n0
     refine hK.out _ _ ⟨(hb9.cell (Vy _ _ z0)).trans z0, (hb9.cell (Vy _ _ z1)).trans z1, (hb9.cell (Vy _ _ z2)).trans z2, (hb9.cell (Vy _ _ z3)).trans z3⟩ (fun hS => ?_)
     clear hK K
     refine RP.norm (a' := ?_) ?_ ?_
     rotate_left
     ·show Act.put _ (some 19) _ = _
      simp only [Act.put, Vt, Vu, Vv, zx, zz]
      rfl
     repeat (first
      | (refine RP.pure (v := undef) (a' := ?_) rfl rfl (Or.inr ⟨by rfl, rfl⟩) ?_ ?_; rotate_left; (focus (simp only [Act.put, Vt, Vu, Vv, zx, zz]; rfl)))
      | (refine RP.take (v := undef) (a' := ?_) rfl rfl (by assumption) (Or.inr ⟨by rfl, rfl⟩) ?_ ?_; rotate_left; (focus (simp only [Act.put, Vt, Vu, Vv, zx, zz]; rfl)))
      | (refine RP.pure (v := ?_) (a' := ?_) rfl rfl (Or.inl ⟨by rfl, ?_⟩) ?_ ?_; rotate_left; (focus (intro w'; go_simp; with_reducible rfl)); rotate_left; (focus (simp only [Act.put, Vt, Vu, Vv, zx, zz]; rfl)))
      | (refine RP.take (v := ?_) (a' := ?_) rfl rfl (by assumption) (Or.inl ⟨by rfl, ?_⟩) ?_ ?_; rotate_left; (focus (rintro w' ⟨hS0, hS1, hS2, hS3⟩; go_simp; with_reducible rfl)); rotate_left; (focus (simp only [Act.put, Vt, Vu, Vv, zx, zz]; rfl))))
     refine RP.nil ?_
     go_wp2
     go_ret
     exact ⟨rfl, HB2.out⟩
    case inr.inr.inl =>
     have HP := za.mk hp
     clear hp
     have HQ := za.mk hq
     clear hq
     have HN := za.mk hn
     have HI1 := za.mk (HI1.out h63)
     clear hn h63
     have j4 : ¬ (0 : Int) < (i : Int) := by omega
     have j5 : decide (0 < i) = false := decide_eq_false (by omega)
     have j6 : decide ((0 : Int) < (i : Int)) = false := decide_eq_false (by omega)
     clear hi0
     generalize (zM l0 (i : Int)).f0 = s0 at *
     generalize (zM l0 (i : Int)).f1.f0 = s1 at *
     generalize (zM l0 (i : Int)).f1.f1 = s2 at *
     generalize (zM l0 (i : Int)).f1.f2 = s3 at *
     clear HRD HRR HWW HCL
     refine vt [(0, 0, 12), (1, 0, 13), (2, 2, 14), (3, 1, 15), (4, 1, 16), (5, 1, 17), (6, 0, 18), (7, 2, 19), (8, 1, 20), (9, 1, 21), (10, 1, 22), (11, 1, 23), (12, 1, 24), (13, 1, 25), (14, 1, 26), (15, 0, 27), (16, 1, 28), (17, 1, 29), (18, 1, 30), (19, 1, 31), (20, 1, 32), (21, 0, 33), (22, 1, 34), (23, 1, 35), (24, 1, 36)] [] (fun W => W.cell? ⟨g, 0, none⟩ = some (.string s0) ∧ W.cell? ⟨g, 1, none⟩ = some (.int .i64 s1) ∧ W.cell? ⟨g, 2, none⟩ = some (.int .i64 s2) ∧ W.cell? ⟨g, 3, none⟩ = some (.slice A3 s3.length c3)) (by kernel_rfl) rfl (by kernel_rfl) (fun _ t _ _ _ h => by cases t <;> exact h) ⟨x0, x1, x2, x3⟩ (fun hS => ?_)
     repeat (first
      | (refine RP.pure (v := undef) (a' := ?_) rfl rfl (Or.inr ⟨by rfl, rfl⟩) ?_ ?_; rotate_left; (focus (simp only [Act.put, Vt, Vu, Vv, zx, zz]; rfl)))
      | (refine RP.take (v := undef) (a' := ?_) rfl rfl (by assumption) (Or.inr ⟨by rfl, rfl⟩) ?_ ?_; rotate_left; (focus (simp only [Act.put, Vt, Vu, Vv, zx, zz]; rfl)))
      | (refine RP.pure (v := ?_) (a' := ?_) rfl rfl (Or.inl ⟨by rfl, ?_⟩) ?_ ?_; rotate_left; (focus (intro w'; go_simp; with_reducible rfl)); rotate_left; (focus (simp only [Act.put, Vt, Vu, Vv, zx, zz]; rfl)))
      | (refine RP.take (v := ?_) (a' := ?_) rfl rfl (by assumption) (Or.inl ⟨by rfl, ?_⟩) ?_ ?_; rotate_left; (focus (rintro w' ⟨hS0, hS1, hS2, hS3⟩; go_simp; with_reducible rfl)); rotate_left; (focus (simp only [Act.put, Vt, Vu, Vv, zx, zz]; rfl))))
     refine RP.one rfl rfl (fun K hK => ?_)
     refine xa Try.func95 (by kernel_rfl) rfl #[.string s0] (by rfl) rfl rfl (by (try simp only [Vw, List.map_cons, List.map_nil]); first | done | rfl) ?_
     (with_reducible refine (yp.calls k1 s0 _ _ HP.out).mono ?_)
     rintro e w8 ⟨rfl, hb8⟩
     refine ⟨_, rfl, ?_⟩
     have n0 := za.mk (zi (zb HB2.out 1) hb8)
     have n1 := za.mk (Kd.C_below HVW.out (zi (zb (Below.refl _ _) 1) hb8))
     obtain ⟨z0, z1, z2, z3⟩ : w8.cell? ⟨g, 0, none⟩ = some (.string s0) ∧ w8.cell? ⟨g, 1, none⟩ = some (.int .i64 s1) ∧ w8.cell? ⟨g, 2, none⟩ = some (.int .i64 s2) ∧ w8.cell? ⟨g, 3, none⟩ = some (.slice A3 s3.length c3) := ⟨(hb8.cell (Vy _ _ x0)).trans x0, (hb8.cell (Vy _ _ x1)).trans x1, (hb8.cell (Vy _ _ x2)).trans x2, (hb8.cell (Vy _ _ x3)).trans x3⟩
     clear HB2 HVW hb8 hS
     have HB2 := n0
     have HVW := n1
     clear n0 n1
     refine hK.out _ _ ⟨z0, z1, z2, z3⟩ (fun hS => ?_)
     clear hK K
     refine RP.norm (a' := ?_) ?_ ?_
     rotate_left
     ·show Act.put _ (some 14) _ = _
      simp only [Act.put, Vt, Vu, Vv, zx, zz]
      rfl
     repeat (first
      | (refine RP.pure (v := undef) (a' := ?_) rfl rfl (Or.inr ⟨by rfl, rfl⟩) ?_ ?_; rotate_left; (focus (simp only [Act.put, Vt, Vu, Vv, zx, zz]; rfl)))
      | (refine RP.take (v := undef) (a' := ?_) rfl rfl (by assumption) (Or.inr ⟨by rfl, rfl⟩) ?_ ?_; rotate_left; (focus (simp only [Act.put, Vt, Vu, Vv, zx, zz]; rfl)))
      | (refine RP.pure (v := ?_) (a' := ?_) rfl rfl (Or.inl ⟨by rfl, ?_⟩) ?_ ?_; rotate_left; (focus (intro w'; go_simp; with_reducible rfl)); rotate_left; (focus (simp only [Act.put, Vt, Vu, Vv, zx, zz]; rfl)))
      | (refine RP.take (v := ?_) (a' := ?_) rfl rfl (by assumption) (Or.inl ⟨by rfl, ?_⟩) ?_ ?_; rotate_left; (focus (rintro w' ⟨hS0, hS1, hS2, hS3⟩; go_simp; with_reducible rfl)); rotate_left; (focus (simp only [Act.put, Vt, Vu, Vv, zx, zz]; rfl))))
     refine RP.one rfl rfl (fun K hK => ?_)
     refine xa Try.func96 (by kernel_rfl) rfl #[.agg #[.int .i64 s1, .int .i64 s2, .slice A3 s3.length c3]] (by rfl) rfl rfl (by (try simp only [Vw, List.map_cons, List.map_nil]); first | done | rfl) ?_
     (with_reducible refine (xD.calls k1 s1 s2 A3 c3 s3 _ _ HVW.out HL3.out HQ.out).mono ?_)
     rintro e w9 ⟨rfl, hb9⟩
     refine ⟨_, rfl, ?_⟩
     have n0 := za.mk (zi HB2.out hb9)
     clear HB2 HVW
     have HB2 := n0
     clear n0
     refine hK.out _ _ ⟨(hb9.cell (Vy _ _ z0)).trans z0, (hb9.cell (Vy _ _ z1)).trans z1, (hb9.cell (Vy _ _ z2)).trans z2, (hb9.cell (Vy _ _ z3)).trans z3⟩ (fun hS => ?_)
     clear hK K
     refine RP.norm (a' := ?_) ?_ ?_
     rotate_left
     ·show Act.put _ (some 19) _ = _
      simp only [Act.put, Vt, Vu, Vv, zx, zz]
      rfl
     repeat (first
      | (refine RP.pure (v := undef) (a' := ?_) rfl rfl (Or.inr ⟨by rfl, rfl⟩) ?_ ?_; rotate_left; (focus (simp only [Act.put, Vt, Vu, Vv, zx, zz]; rfl)))
      | (refine RP.take (v := undef) (a' := ?_) rfl rfl (by assumption) (Or.inr ⟨by rfl, rfl⟩) ?_ ?_; rotate_left; (focus (simp only [Act.put, Vt, Vu, Vv, zx, zz]; rfl)))
      | (refine RP.pure (v := ?_) (a' := ?_) rfl rfl (Or.inl ⟨by rfl, ?_⟩) ?_ ?_; rotate_left; (focus (intro w'; go_simp; with_reducible rfl)); rotate_left; (focus (simp only [Act.put, Vt, Vu, Vv, zx, zz]; rfl)))
      | (refine RP.take (v := ?_) (a' := ?_) rfl rfl (by assumption) (Or.inl ⟨by rfl, ?_⟩) ?_ ?_; rotate_left; (focus (rintro w' ⟨hS0, hS1, hS2, hS3⟩; go_simp; with_reducible rfl)); rotate_left; (focus (simp only [Act.put, Vt, Vu, Vv, zx, zz]; rfl))))
     refine RP.nil ?_
     go_wp2
     go_roundg k1
     case measure => omega
     case rel => exact ⟨i + 1, by have h8 := HI1.out; first | (rw [yU (by omega) (by omega)]; rfl) | go_num, HN, HI1, ⟨by have := HK1.out; omega⟩, HB2⟩
    case inr.inr.inr.inl =>
     have HP := za.mk hp
     clear hp
     have HQ := za.mk hq
     clear hq
     have HN := za.mk hn
     have HI1 := za.mk (HI1.out h63)
     clear hn h63
     obtain ⟨ad2, _, _, e2, x4, -⟩ := qc HRR.out (j : Int) (by omega) (by omega)
     obtain rfl : ad = ad2 := by injection e2
     rw [Int.toNat_natCast] at x4
     replace x4 := HCL.out _ _ x4
     generalize (zM l0 (j : Int)).f0 = sp at *
     have j0 : (0 : Int) ≤ (j : Int) := by omega
     have j1 : (j : Int) < (l0.length : Int) := by omega
     have j2 : wrap64 ((i : Int) - 1) = (j : Int) := by have := HI.out.2; rw [xR (by omega) (by omega)]; omega
     have j3 := (zx _).trans j2
     have j4 : (0 : Int) < (i : Int) := by omega
     have j5 : decide (0 < i) = true := decide_eq_true (by omega)
     have j6 : decide ((0 : Int) < (i : Int)) = true := decide_eq_true (by omega)
     clear hij
     generalize (zM l0 (i : Int)).f0 = s0 at *
     generalize (zM l0 (i : Int)).f1.f0 = s1 at *
     generalize (zM l0 (i : Int)).f1.f1 = s2 at *
     generalize (zM l0 (i : Int)).f1.f2 = s3 at *
     clear HRD HRR HWW HCL
     refine vt [(0, 0, 12), (1, 0, 13), (2, 2, 14), (3, 1, 15), (4, 1, 16), (5, 1, 17), (6, 0, 18), (7, 2, 19), (8, 1, 20), (9, 1, 21), (10, 1, 22), (11, 1, 23), (12, 1, 24), (13, 1, 25), (14, 1, 26), (15, 0, 27), (16, 1, 28), (17, 1, 29), (18, 1, 30), (19, 1, 31), (20, 1, 32), (21, 0, 33), (22, 1, 34), (23, 1, 35), (24, 1, 36)] [] (fun W => W.cell? ⟨g, 0, none⟩ = some (.string s0) ∧ W.cell? ⟨g, 1, none⟩ = some (.int .i64 s1) ∧ W.cell? ⟨g, 2, none⟩ = some (.int .i64 s2) ∧ W.cell? ⟨g, 3, none⟩ = some (.slice A3 s3.length c3) ∧ W.cell? (ad.add (j * 4)) = some (.string sp)) (by kernel_rfl) rfl (by kernel_rfl) (fun _ t _ _ _ h => by cases t <;> exact h) ⟨x0, x1, x2, x3, x4⟩ (fun hS => ?_)
     repeat (first
      | (refine RP.pure (v := undef) (a' := ?_) rfl rfl (Or.inr ⟨by rfl, rfl⟩) ?_ ?_; rotate_left; (focus (simp only [Act.put, Vt, Vu, Vv, zx, zz]; rfl)))
      | (refine RP.take (v := undef) (a' := ?_) rfl rfl (by assumption) (Or.inr ⟨by rfl, rfl⟩) ?_ ?_; rotate_left; (focus (simp only [Act.put, Vt, Vu, Vv, zx, zz]; rfl)))
      | (refine RP.pure (v := ?_) (a' := ?_) rfl rfl (Or.inl ⟨by rfl, ?_⟩) ?_ ?_; rotate_left; (focus (intro w'; go_simp; with_reducible rfl)); rotate_left; (focus (simp only [Act.put, Vt, Vu, Vv, zx, zz]; rfl)))
      | (refine RP.take (v := ?_) (a' := ?_) rfl rfl (by assumption) (Or.inl ⟨by rfl, ?_⟩) ?_ ?_; rotate_left; (focus (rintro w' ⟨hS0, hS1, hS2, hS3, hS4⟩; go_simp; with_reducible rfl)); rotate_left; (focus (simp only [Act.put, Vt, Vu, Vv, zx, zz]; rfl))))
     refine RP.one rfl rfl (fun K hK => ?_)
     refine xa Try.func95 (by kernel_rfl) rfl #[.string s0] (by rfl) rfl rfl (by (try simp only [Vw, List.map_cons, List.map_nil]); first | done | rfl) ?_
     (with_reducible refine (yp.calls k1 s0 _ _ HP.out).mono ?_)
     rintro e w8 ⟨rfl, hb8⟩
     refine ⟨_, rfl, ?_⟩
     have n0 := za.mk (zi (zb HB2.out 1) hb8)
     have n1 := za.mk (Kd.C_below HVW.out (zi (zb (Below.refl _ _) 1) hb8))
     obtain ⟨z0, z1, z2, z3, z4⟩ : w8.cell? ⟨g, 0, none⟩ = some (.string s0) ∧ w8.cell? ⟨g, 1, none⟩ = some (.int .i64 s1) ∧ w8.cell? ⟨g, 2, none⟩ = some (.int .i64 s2) ∧ w8.cell? ⟨g, 3, none⟩ = some (.slice A3 s3.length c3) ∧ w8.cell? (ad.add (j * 4)) = some (.string sp) := ⟨(hb8.cell (Vy _ _ x0)).trans x0, (hb8.cell (Vy _ _ x1)).trans x1, (hb8.cell (Vy _ _ x2)).trans x2, (hb8.cell (Vy _ _ x3)).trans x3, (hb8.cell (Vy _ _ x4)).trans x4⟩
     clear HB2 HVW hb8 hS
     have HB2 := n0
     have HVW := n1
     clear n0 n1
     refine hK.out _ _ ⟨z0, z1, z2, z3, z4⟩ (fun hS => ?_)
     clear hK K
     refine RP.norm (a' := ?_) ?_ ?_
     rotate_left
     ·show Act.put _ (some 14) _ = _
      simp only [Act.put, Vt, Vu, Vv, zx, zz]
      rfl
     repeat (first
      | (refine RP.pure (v := undef) (a' := ?_) rfl rfl (Or.inr ⟨by rfl, rfl⟩) ?_ ?_; rotate_left; (focus (simp only [Act.put, Vt, Vu, Vv, zx, zz]; rfl)))
      | (refine RP.take (v := undef) (a' := ?_) rfl rfl (by assumption) (Or.inr ⟨by rfl, rfl⟩) ?_ ?_; rotate_left; (focus (simp only [Act.put, Vt, Vu, Vv, zx, zz]; rfl)))
      | (refine RP.pure (v := ?_) (a' := ?_) rfl rfl (Or.inl ⟨by rfl, ?_⟩) ?_ ?_; rotate_left; (focus (intro w'; go_simp; with_reducible rfl)); rotate_left; (focus (simp only [Act.put, Vt, Vu, Vv, zx, zz]; rfl)))
      | (refine RP.take (v := ?_) (a' := ?_) rfl rfl (by assumption) (Or.inl ⟨by rfl, ?_⟩) ?_ ?_; rotate_left; (focus (rintro w' ⟨hS0, hS1, hS2, hS3, hS4⟩; go_simp; with_reducible rfl)); rotate_left; (focus (simp only [Act.put, Vt, Vu, Vv, zx, zz]; rfl))))
     refine RP.one rfl rfl (fun K hK => ?_)
     refine xa Try.func96 (by kernel_rfl) rfl #[.agg #[.int .i64 s1, .int .i64 s2, .slice A3 s3.length c3]] (by rfl) rfl rfl (by (try simp only [Vw, List.map_cons, List.map_nil]); first | done | rfl) ?_
     (with_reducible refine (xD.calls k1 s1 s2 A3 c3 s3 _ _ HVW.out HL3.out HQ.out).mono ?_)
     rintro e w9 ⟨rfl, hb9⟩
     refine ⟨_, rfl, ?_⟩
     have n0 := za.mk (zi HB2.out hb9)
     clear HB2 HVW
     have HB2 := n0
     clear n0
     refine hK.out _ _ ⟨(hb9.cell (Vy _ _ z0)).trans z0, (hb9.cell (Vy _ _ z1)).trans z1, (hb9.cell (Vy _ _ z2)).trans z2, (hb9.cell (Vy _ _ z3)).trans z3, (hb9.cell (Vy _ _ z4)).trans z4⟩ (fun hS => ?_)
     clear hK K
     refine RP.norm (a' := ?_) ?_ ?_
     rotate_left
     ·show Act.put _ (some 19) _ = _
      simp only [Act.put, Vt, Vu, Vv, zx, zz]
      rfl
     repeat (first
      | (refine RP.pure (v := undef) (a' := ?_) rfl rfl (Or.inr ⟨by rfl, rfl⟩) ?_ ?_; rotate_left; (focus (simp only [Act.put, Vt, Vu, Vv, zx, zz]; rfl)))
      | (refine RP.take (v := undef) (a' := ?_) rfl rfl (by assumption) (Or.inr ⟨by rfl, rfl⟩) ?_ ?_; rotate_left; (focus (simp only [Act.put, Vt, Vu, Vv, zx, zz]; rfl)))
      | (refine RP.pure (v := ?_) (a' := ?_) rfl rfl (Or.inl ⟨by rfl, ?_⟩) ?_ ?_; rotate_left; (focus (intro w'; go_simp; with_reducible rfl)); rotate_left; (focus (simp only [Act.put, Vt, Vu, Vv, zx, zz]; rfl)))
      | (refine RP.take (v := ?_) (a' := ?_) rfl rfl (by assumption) (Or.inl ⟨by rfl, ?_⟩) ?_ ?_; rotate_left; (focus (rintro w' ⟨hS0, hS1, hS2, hS3, hS4⟩; go_simp; with_reducible rfl)); rotate_left; (focus (simp only [Act.put, Vt, Vu, Vv, zx, zz]; rfl))))
     refine RP.nil ?_
     go_wp2
     go_roundg k1
     case measure => omega
     case rel => exact ⟨i + 1, by have h8 := HI1.out; first | (rw [yU (by omega) (by omega)]; rfl) | go_num, HN, HI1, ⟨by have := HK1.out; omega⟩, HB2⟩
    case inr.inr.inr.inr =>
     have HP := za.mk hp
     clear hp
     have HQ := za.mk hq
     clear hq
     obtain ⟨ad2, _, _, e2, x4, -⟩ := qc HRR.out (j : Int) (by omega) (by omega)
     obtain rfl : ad = ad2 := by injection e2
     rw [Int.toNat_natCast] at x4
     replace x4 := HCL.out _ _ x4
     generalize (zM l0 (j : Int)).f0 = sp at *
     have j0 : (0 : Int) ≤ (j : Int) := by omega
     have j1 : (j : Int) < (l0.length : Int) := by omega
     have j2 : wrap64 ((i : Int) - 1) = (j : Int) := by have := HI.out.2; rw [xR (by omega) (by omega)]; omega
     have j3 := (zx _).trans j2
     have j4 : (0 : Int) < (i : Int) := by omega
     have j5 : decide (0 < i) = true := decide_eq_true (by omega)
     have j6 : decide ((0 : Int) < (i : Int)) = true := decide_eq_true (by omega)
     clear hij
     generalize (zM l0 (i : Int)).f0 = s0 at *
     generalize (zM l0 (i : Int)).f1.f0 = s1 at *
     generalize (zM l0 (i : Int)).f1.f1 = s2 at *
     generalize (zM l0 (i : Int)).f1.f2 = s3 at *
     clear HRD HRR HWW HCL
     refine vt [(0, 0, 12), (1, 0, 13), (2, 2, 14), (3, 1, 15), (4, 1, 16), (5, 1, 17), (6, 0, 18), (7, 2, 19), (8, 1, 20), (9, 1, 21), (10, 1, 22), (11, 1, 23), (12, 1, 24), (13, 1, 25), (14, 1, 26), (15, 0, 27), (16, 1, 28), (17, 1, 29), (18, 1, 30), (19, 1, 31), (20, 1, 32), (21, 0, 33), (22, 1, 34), (23, 1, 35), (24, 1, 36)] [] (fun W => W.cell? ⟨g, 0, none⟩ = some (.string s0) ∧ W.cell? ⟨g, 1, none⟩ = some (.int .i64 s1) ∧ W.cell? ⟨g, 2, none⟩ = some (.int .i64 s2) ∧ W.cell? ⟨g, 3, none⟩ = some (.slice A3 s3.length c3) ∧ W.cell? (ad.add (j * 4)) = some (.string sp)) (by kernel_rfl) rfl (by kernel_rfl) (fun _ t _ _ _ h => by cases t <;> exact h) ⟨x0, x1, x2, x3, x4⟩ (fun hS => ?_)
     repeat (first
      | (refine RP.pure (v := undef) (a' := ?_) rfl rfl (Or.inr ⟨by rfl, rfl⟩) ?_ ?_; rotate_left; (focus (simp only [Act.put, Vt, Vu, Vv, zx, zz]; rfl)))
      | (refine RP.take (v := undef) (a' := ?_) rfl rfl (by assumption) (Or.inr ⟨by rfl, rfl⟩) ?_ ?_; rotate_left; (focus (simp only [Act.put, Vt, Vu, Vv, zx, zz]; rfl)))
      | (refine RP.pure (v := ?_) (a' := ?_) rfl rfl (Or.inl ⟨by rfl, ?_⟩) ?_ ?_; rotate_left; (focus (intro w'; go_simp; with_reducible rfl)); rotate_left; (focus (simp only [Act.put, Vt, Vu, Vv, zx, zz]; rfl)))
      | (refine RP.take (v := ?_) (a' := ?_) rfl rfl (by assumption) (Or.inl ⟨by rfl, ?_⟩) ?_ ?_; rotate_left; (focus (rintro w' ⟨hS0, hS1, hS2, hS3, hS4⟩; go_simp; with_reducible rfl)); rotate_left; (focus (simp only [Act.put, Vt, Vu, Vv, zx, zz]; rfl))))
     refine RP.one rfl rfl (fun K hK => ?_)
     refine xa Try.func95 (by kernel_rfl) rfl #[.string s0] (by rfl) rfl rfl (by (try simp only [Vw, List.map_cons, List.map_nil]); first | done | rfl) ?_
     (with_reducible refine (yp.calls k1 s0 _ _ HP.out).mono ?_)
     rintro e w8 ⟨rfl, hb8⟩
     refine ⟨_, rfl, ?_⟩
     have n0 := za.mk (zi (zb HB2.out 1) hb8)
     have n1 := za.mk (Kd.C_below HVW.out (zi (zb (Below.refl _ _) 1) hb8))
     obtain ⟨z0, z1, z2, z3, z4⟩ : w8.cell? ⟨g, 0, none⟩ = some (.string s0) ∧ w8.cell? ⟨g, 1, none⟩ = some (.int .i64 s1) ∧ w8.cell? ⟨g, 2, none⟩ = some (.int .i64 s2) ∧ w8.cell? ⟨g, 3, none⟩ = some (.slice A3 s3.length c3) ∧ w8.cell? (ad.add (j * 4)) = some (.string sp) := ⟨(hb8.cell (Vy _ _ x0)).trans x0, (hb8.cell (Vy _ _ x1)).trans x1, (hb8.cell (Vy _ _ x2)).trans x2, (hb8.cell (Vy _ _ x3)).trans x3, (hb8.cell (Vy _ _ x4)).trans x4⟩
     clear HB2 HVW hb8 hS
     have HB2 := n0
     have HVW := n1
     clear n0 n1
     refine hK.out _ _ ⟨z0, z1, z2, z3, z4⟩ (fun hS => ?_)
     clear hK K
     refine RP.norm (a' := ?_) ?_ ?_
     rotate_left
     ·show Act.put _ (some 14) _ = _
      simp only [Act.put, Vt, Vu, Vv, zx, zz]
      rfl
     repeat (first
      | (refine RP.pure (v := undef) (a' := ?_) rfl rfl (Or.inr ⟨by rfl, rfl⟩) ?_ ?_; rotate_left; (focus (simp only [Act.put, Vt, Vu, Vv, zx, zz]; rfl)))
      | (refine RP.take (v := undef) (a' := ?_) rfl rfl (by assumption) (Or.inr ⟨by rfl, rfl⟩) ?_ ?_; rotate_left; (focus (simp only [Act.put, Vt, Vu, Vv, zx, zz]; rfl)))
      | (refine RP.pure (v := ?_) (a' := ?_) rfl rfl (Or.inl ⟨by rfl, ?_⟩) ?_ ?_; rotate_left; (focus (intro w'; go_simp; with_reducible rfl)); rotate_left; (focus (simp only [Act.put, Vt, Vu, Vv, zx, zz]; rfl)))
      | (refine RP.take (v := ?_) (a' := ?_) rfl rfl (by assumption) (Or.inl ⟨by rfl, ?_⟩) ?_ ?_; rotate_left; (focus (rintro w' ⟨hS0, hS1, hS2, hS3, hS4⟩; go_simp; with_reducible rfl)); rotate_left; (focus (simp only [Act.put, Vt, Vu, Vv, zx, zz]; rfl))))
     refine RP.one rfl rfl (fun K hK => ?_)
     refine xa Try.func96 (by kernel_rfl) rfl #[.agg #[.int .i64 s1, .int .i64 s2, .slice A3 s3.length c3]] (by rfl) rfl rfl (by (try simp only [Vw, List.map_cons, List.map_nil]); first | done | rfl) ?_
     (with_reducible refine (xD.calls k1 s1 s2 A3 c3 s3 _ _ HVW.out HL3.out HQ.out).mono ?_)
     rintro e w9 ⟨rfl, hb9⟩
     refine ⟨_, rfl, ?_⟩
     have n0 := za.mk (zi HB2.out hb9)
     clear HB2 HVW
     have HB2 := n0
     clear n0
     refine hK.out _ _ ⟨(hb9.cell (Vy _ _ z0)).trans z0, (hb9.cell (Vy _ _ z1)).trans z1, (hb9.cell (Vy _ _ z2)).trans z2, (hb9.cell (Vy _ _ z3)).trans z3, (hb9.cell (Vy _ _ z4)).trans z4⟩ (fun hS => ?_)
     clear hK K
     refine RP.norm (a' := ?_) ?_ ?_
     rotate_left
     ·show Act.put _ (some 19) _ = _
      simp only [Act.put, Vt, Vu, Vv, zx, zz]
      rfl
     repeat (first
      | (refine RP.pure (v := undef) (a' := ?_) rfl rfl (Or.inr ⟨by rfl, rfl⟩) ?_ ?_; rotate_left; (focus (simp only [Act.put, Vt, Vu, Vv, zx, zz]; rfl)))
      | (refine RP.take (v := undef) (a' := ?_) rfl rfl (by assumption) (Or.inr ⟨by rfl, rfl⟩) ?_ ?_; rotate_left; (focus (simp only [Act.put, Vt, Vu, Vv, zx, zz]; rfl)))
      | (refine RP.pure (v := ?_) (a' := ?_) rfl rfl (Or.inl ⟨by rfl, ?_⟩) ?_ ?_; rotate_left; (focus (intro w'; go_simp; with_reducible rfl)); rotate_left; (focus (simp only [Act.put, Vt, Vu, Vv, zx, zz]; rfl)))
      | (refine RP.take (v := ?_) (a' := ?_) rfl rfl (by assumption) (Or.inl ⟨by rfl, ?_⟩) ?_ ?_; rotate_left; (focus (rintro w' ⟨hS0, hS1, hS2, hS3, hS4⟩; go_simp; with_reducible rfl)); rotate_left; (focus (simp only [Act.put, Vt, Vu, Vv, zx, zz]; rfl))))
     refine RP.nil ?_
     go_wp2
     go_ret
     exact ⟨rfl, HB2.out⟩
   ·have HE := za.mk (show decide ((l0.length : Int) ≤ 64) = r by (have h := HA.out; rw [yl.l0, if_neg (by omega)] at h; simpa using h))
    have b1 : ¬ (i : Int) < (l0.length : Int) := by omega
    clear HA
    go_wp2
    go_ret
    exact ⟨by rw [HE.out]; rfl, HB.out⟩
theorem Y5 (k g : Nat) (s0_0 : ByteArray) (s0_1 : Int) (A : Option Addr) (c : Nat) (l : List S93) (w0 w : World) (er : Int) (he : er ≠ 0) (hI : zf w0 w g s0_0 s0_1 er) (hB : Below w0.heap.size w0 w) (hC : Kd.C k93 w A l.length l) (hl : l.length ≤ c) :
  Calls Try.prog 73 #[.pointer (some ⟨g, 0, none⟩), .slice A l.length c, .func (Fn.func 54) #[] #[]] w fun e w' => e = .returned (.tuple #[.slice none 0 0, .int .i64 0, .int .i64 er]) ∧ zf w0 w' g s0_0 s0_1 er ∧ Below w0.heap.size w0 w' ∧ zl w w' g none := by
 have HI := za.mk hI
 have HB := za.mk hB
 clear hI hB hC
 have e1 : (er == 0) = false := beq_eq_false_iff_ne.mpr he
 have e2 : (er != 0) = true := bne_iff_ne.mpr he
 have hc0 := yd HI.out.1
 have hc1 := yc HI.out.1
 have hc2 := ye HI.out.1
 have hf0 := ze HI.out.1 0
 have hf1 := ze HI.out.1 1
 have hf2 := ze HI.out.1 2
 go_enter Try.func73, Try.ntmps73
 go_wp2
 repeat (go_quiet (fail); try go_wp2)
 go_ret3
 exact ⟨rfl, by repeat (first | exact HI.out | apply zf.drewN | apply zf.drew), by repeat (first | exact HB.out | apply zb | apply zd), by repeat (first | exact zl.refl _ _ _ | apply zI | apply zO)⟩
theorem Yt (k g : Nat) (s0_0 : ByteArray) (s0_1 : Int) (A : Option Addr) (c : Nat) (l : List S93) (w0 w : World) (hI : zf w0 w g s0_0 s0_1 0) (hB : Below w0.heap.size w0 w) (hC : Kd.C k93 w A l.length l) (hl : l.length ≤ c) (h : yl.f k l = some true) :
  Calls Try.prog 73 #[.pointer (some ⟨g, 0, none⟩), .slice A l.length c, .func (Fn.func 54) #[] #[]] w fun e w' => e = .returned (.tuple #[.slice A l.length c, .int .i64 s0_1, .int .i64 0]) ∧ zf w0 w' g s0_0 s0_1 0 ∧ Below w0.heap.size w0 w' ∧ zl w w' g none := by
 have HI := za.mk hI
 have HB := za.mk hB
 have HX := za.mk h
 have HC := za.mk hC
 have HL := za.mk hl
 clear hI hB h hC hl
 have hc0 := yd HI.out.1
 have hc1 := yc HI.out.1
 have hc2 := ye HI.out.1
 have hf0 := ze HI.out.1 0
 have hf1 := ze HI.out.1 1
 have hf2 := ze HI.out.1 2
 go_enter Try.func73, Try.ntmps73
 go_wp2_with (first | (go_at_call 54; (with_reducible refine (yl.calls k _ _ l true _ ?side1 ?side2 HX.out).mono ?_); (case side1 => exact HC.out); (case side2 => exact HL.out); rintro e w1 ⟨rfl, hb⟩; have HB2 := za.mk hb; have HI1 := za.mk (HI.out.below HB2.out); clear hb hc0 hc1 hc2 hf0 hf1 hf2; have hc0 := yd HI1.out.1; have hc1 := yc HI1.out.1; have hc2 := ye HI1.out.1; have hf0 := ze HI1.out.1 0; have hf1 := ze HI1.out.1 1; have hf2 := ze HI1.out.1 2))
 have HB3 := za.mk (zi HB.out HB2.out)
 have HK2 := za.mk (zl.of_below HB2.out g none)
 repeat (go_quiet (fail); try go_wp2)
 go_ret3
 exact ⟨rfl, by repeat (first | exact HI1.out | apply zf.drewN | apply zf.drew), by repeat (first | exact HB3.out | apply zb | apply zd), by repeat (first | exact HK2.out | apply zI | apply zO)⟩
theorem ZL (k g : Nat) (s0_0 : ByteArray) (s0_1 : Int) (A : Option Addr) (c : Nat) (l : List S93) (w0 w : World) (hI : zf w0 w g s0_0 s0_1 0) (hB : Below w0.heap.size w0 w) (hC : Kd.C k93 w A l.length l) (hl : l.length ≤ c) (h : yl.f k l = some false) :
  Calls Try.prog 73 #[.pointer (some ⟨g, 0, none⟩), .slice A l.length c, .func (Fn.func 54) #[] #[]] w fun e w' => e = .returned (.tuple #[.slice none 0 0, .int .i64 0, .int .i64 6]) ∧ zf w0 w' g s0_0 s0_1 6 ∧ Below w0.heap.size w0 w' ∧ zl w w' g none := by
 have HI := za.mk hI
 have HB := za.mk hB
 have HX := za.mk h
 have HC := za.mk hC
 have HL := za.mk hl
 clear hI hB h hC hl
 have hc0 := yd HI.out.1
 have hc1 := yc HI.out.1
 have hc2 := ye HI.out.1
 have hf0 := ze HI.out.1 0
 have hf1 := ze HI.out.1 1
 have hf2 := ze HI.out.1 2
 go_enter Try.func73, Try.ntmps73
 go_wp2_with (first | (go_at_call 54; (with_reducible refine (yl.calls k _ _ l false _ ?side1 ?side2 HX.out).mono ?_); (case side1 => exact HC.out); (case side2 => exact HL.out); rintro e w1 ⟨rfl, hb⟩; have HB2 := za.mk hb; have HI1 := za.mk (HI.out.below HB2.out); clear hb hc0 hc1 hc2 hf0 hf1 hf2; have hc0 := yd HI1.out.1; have hc1 := yc HI1.out.1; have hc2 := ye HI1.out.1; have hf0 := ze HI1.out.1 0; have hf1 := ze HI1.out.1 1; have hf2 := ze HI1.out.1 2))
 have HI2 := za.mk (HI1.out.set_2 6)
 have HB3 := za.mk (zh (g := g) (j := 2) (v := .int .i64 6) (zi HB.out HB2.out) (zf.ge HI1.out))
 have HK2 := za.mk ((zl.of_below HB2.out g none).set_ 2 (.int .i64 6))
 repeat (go_quiet (fail); try go_wp2)
 go_ret3
 exact ⟨rfl, by repeat (first | exact HI2.out | apply zf.drewN | apply zf.drew), by repeat (first | exact HB3.out | apply zb | apply zd), by repeat (first | exact HK2.out | apply zI | apply zO)⟩
def xQ.f (k : Nat) (s0_0 : ByteArray) (s0_1 : Int) (s0_2 : Int) : Option (ByteArray × Int × Int × List Int × ByteArray × Int × Int) := (yg.f k s0_0 s0_1 s0_2).bind fun bt512 => ((zw.f k bt512.2.1 bt512.2.2.1 bt512.2.2.2).bind fun bt516 => ((zw.f k bt516.2.1 bt516.2.2.1 bt516.2.2.2).bind fun bt520 => ((z6.f k bt520.2.1 bt520.2.2.1 bt520.2.2.2).bind fun bt524 => (some (bt512.1, bt516.1, bt520.1, bt524.1, bt524.2.1, bt524.2.2.1, bt524.2.2.2)))))
theorem xQ.calls (k : Nat) (g : Nat) (s0_0 : ByteArray) (s0_1 : Int) (s0_2 : Int) (r1 : ByteArray) (r2 : Int) (r3 : Int) (r4 : List Int) (r5 : ByteArray) (r6 : Int) (r7 : Int) (w0 w : World) (hI : zf w0 w g s0_0 s0_1 s0_2) (hB : Below w0.heap.size w0 w) (h : xQ.f k s0_0 s0_1 s0_2 = some (r1, r2, r3, r4, r5, r6, r7)) :
  Calls Try.prog 75 #[.pointer (some ⟨g, 0, none⟩)] w fun e w' => ∃ v3_ : Value, e = .returned (.agg #[.string r1, .int .i64 r2, .int .i64 r3, v3_]) ∧ Kd.R (Kd.int .i64) 3 w' w.heap.size (fun _ => True) v3_ r4 ∧ zf w0 w' g r5 r6 r7 ∧ Below w0.heap.size w0 w' ∧ zl w w' g none := by
 have hu93 := Try.underlying93
 have hu91 := Try.underlying91
 have HI0 := za.mk hI
 have HK := za.mk (zl.refl w g none)
 have HL := za.mk hB.size
 clear hI
 have HW0 := za.mk hB.size
 have HB := za.mk hB
 clear hB
 have H : ((yg.f k s0_0 s0_1 s0_2).bind fun bt512 => ((zw.f k bt512.2.1 bt512.2.2.1 bt512.2.2.2).bind fun bt516 => ((zw.f k bt516.2.1 bt516.2.2.1 bt516.2.2.2).bind fun bt520 => ((z6.f k bt520.2.1 bt520.2.2.1 bt520.2.2.2).bind fun bt524 => (some (bt512.1, bt516.1, bt520.1, bt524.1, bt524.2.1, bt524.2.2.1, bt524.2.2.2)))))) = some (r1, r2, r3, r4, r5, r6, r7) := h
 clear h
 replace H := Vx.mp H
 obtain ⟨⟨t512, t513, t514, t515⟩, A20, H⟩ := H
 replace H : ((zw.f k t513 t514 t515).bind fun bt516 => ((zw.f k bt516.2.1 bt516.2.2.1 bt516.2.2.2).bind fun bt520 => ((z6.f k bt520.2.1 bt520.2.2.1 bt520.2.2.2).bind fun bt524 => (some (t512, bt516.1, bt520.1, bt524.1, bt524.2.1, bt524.2.2.1, bt524.2.2.2))))) = some (r1, r2, r3, r4, r5, r6, r7) := H
 have A2 := za.mk A20
 clear A20
 replace H := Vx.mp H
 obtain ⟨⟨t516, t517, t518, t519⟩, A30, H⟩ := H
 replace H : ((zw.f k t517 t518 t519).bind fun bt520 => ((z6.f k bt520.2.1 bt520.2.2.1 bt520.2.2.2).bind fun bt524 => (some (t512, t516, bt520.1, bt524.1, bt524.2.1, bt524.2.2.1, bt524.2.2.2)))) = some (r1, r2, r3, r4, r5, r6, r7) := H
 have A3 := za.mk A30
 clear A30
 replace H := Vx.mp H
 obtain ⟨⟨t520, t521, t522, t523⟩, A40, H⟩ := H
 replace H : ((z6.f k t521 t522 t523).bind fun bt524 => (some (t512, t516, t520, bt524.1, bt524.2.1, bt524.2.2.1, bt524.2.2.2))) = some (r1, r2, r3, r4, r5, r6, r7) := H
 have A4 := za.mk A40
 clear A40
 replace H := Vx.mp H
 obtain ⟨⟨t524, t527, t528, t529⟩, A50, H⟩ := H
 replace H : (some (t512, t516, t520, t524, t527, t528, t529)) = some (r1, r2, r3, r4, r5, r6, r7) := H
 have A5 := za.mk A50
 clear A50
 simp only [Option.some.injEq, Prod.mk.injEq] at H
 obtain ⟨rfl, rfl, rfl, rfl, rfl, rfl, rfl⟩ := H
 go_enter Try.func75, Try.ntmps75
 go_wp2_with (first | ((with_reducible refine zC (N := 2) rfl ?_); refine zF ?hg (N := 2) ?hd (cs := #[.string (⟨#[]⟩ : ByteArray), .int .i64 0, .int .i64 0, .slice none 0 0]) (t := 93) ?hr ?_; (case hd => rfl); (case hg => rfl); (case hr => first | (go_simp; done) | (go_simp; rfl)); intro gb511 hg w6 hbox hb; have n0_ := za.mk (zf.below (by repeat (first | (with_reducible first | exact HI0.out | apply zf.alloc | apply zf.drewN | apply zf.drew | apply zf.set_0 | apply zf.set_1 | apply zf.set_2) | exact HI0.out)) hb); have n1_ := za.mk (zl.trans (by repeat (first | (with_reducible first | exact HK.out | apply zl.set_ | apply zI | apply zO | apply zQ) | exact HK.out)) (zl.of_below hb g none) (.inl rfl)); have n2_ := za.mk (zi (by repeat (first | (with_reducible first | exact HB.out | apply zc | apply zb | apply zd | refine zh ?_ (zf.ge HI0.out)) | exact HB.out)) hb); have n3_ := za.mk (hbox); have n4_ := za.mk ((by rw [hg]; exact (xx (w := w) (g := g) (row := none) (by repeat (first | (with_reducible first | exact HK.out | apply zl.set_ | apply zI | apply zO | apply zQ) | exact HK.out))) : w.heap.size ≤ gb511)); have n5_ := za.mk ((Nat.le_trans HW0.out (by rw [hg]; exact (xx (w := w) (g := g) (row := none) (by repeat (first | (with_reducible first | exact HK.out | apply zl.set_ | apply zI | apply zO | apply zQ) | exact HK.out))) : w.heap.size ≤ gb511) : w0.heap.size ≤ gb511)); have n6_ := za.mk ((by rw [hg]; exact Nat.ne_of_lt (zf.lt (show zf w0 _ g s0_0 s0_1 s0_2 from by repeat (first | (with_reducible first | exact HI0.out | apply zf.alloc | apply zf.drewN | apply zf.drew | apply zf.set_0 | apply zf.set_1 | apply zf.set_2) | exact HI0.out))) : g ≠ gb511)); have n7_ := za.mk ((by rw [hg]; exact Nat.ne_of_gt (zf.lt (show zf w0 _ g s0_0 s0_1 s0_2 from by repeat (first | (with_reducible first | exact HI0.out | apply zf.alloc | apply zf.drewN | apply zf.drew | apply zf.set_0 | apply zf.set_1 | apply zf.set_2) | exact HI0.out))) : gb511 ≠ g)); clear HI0; clear HK; clear HB; have HI0 := n0_; have HK := n1_; have HB := n2_; have BK511 := n3_; have GW511 := n4_; have GE511 := n5_; have NB0_511 := n6_; have NB511_0 := n7_; clear n0_ n1_ n2_ n3_ n4_ n5_ n6_ n7_; clear hb hbox hg) | ((with_reducible refine zL (f := 67) rfl ?_); refine z8 (some 4) rfl rfl Try.func67 (by kernel_rfl) rfl #[.pointer (some ⟨g, 0, none⟩)] rfl (by (try simp only [Vw, List.map_cons, List.map_nil]); first | done | rfl | (simp only [List.length_drop, List.length_take]; rfl)) ?_; (with_reducible refine (yg.calls k g s0_0 s0_1 s0_2 t512 t513 t514 t515 w0 _ ?side1 ?side2 A2.out).mono ?_); (case side1 => repeat (first | (with_reducible first | exact HI0.out | apply zf.alloc | apply zf.drewN | apply zf.drew | apply zf.set_0 | apply zf.set_1 | apply zf.set_2 | refine zf.far ?_ NB0_511.out _) | exact HI0.out)); (case side2 => repeat (first | (with_reducible first | exact HB.out | apply zc | apply zb | apply zd | refine zh ?_ (zf.ge HI0.out) | refine zh ?_ GE511.out) | exact HB.out)); rintro e w7 ⟨rfl, hi, hb, hk⟩; refine ⟨_, rfl, ?_⟩; have n0_ := za.mk (zl.blk hk (g' := gb511) (o := .cells #[.string (⟨#[]⟩ : ByteArray), .int .i64 0, .int .i64 0, .slice none 0 0] 93 (0, 0)) (by (with_reducible repeat (first | refine zt ?_ _ | refine zu ?_ | refine zr ?_ _)); exact BK511.out) NB511_0.out (by simp)); have n1_ := za.mk (zl.trans (by repeat (first | (with_reducible first | exact HK.out | apply zl.set_ | apply zI | apply zO | apply zQ | refine xe ?_ GW511.out _) | exact HK.out)) hk (.inl rfl)); have n2_ := za.mk (hb); have n3_ := za.mk (hi); clear BK511; clear HK; clear HB; clear HI0; have BK511 := n0_; have HK := n1_; have HB := n2_; have HI0 := n3_; clear n0_ n1_ n2_ n3_; (try clear hb); (try clear hb2); (try clear hk); (try clear hi)) | ((with_reducible refine zL (f := 66) rfl ?_); refine z8 (some 6) rfl rfl Try.func66 (by kernel_rfl) rfl #[.pointer (some ⟨g, 0, none⟩)] rfl (by (try simp only [Vw, List.map_cons, List.map_nil]); first | done | rfl | (simp only [List.length_drop, List.length_take]; rfl)) ?_; (with_reducible refine (zw.calls k g t513 t514 t515 t516 t517 t518 t519 w0 _ ?side1 ?side2 A3.out).mono ?_); (case side1 => repeat (first | (with_reducible first | exact HI0.out | apply zf.alloc | apply zf.drewN | apply zf.drew | apply zf.set_0 | apply zf.set_1 | apply zf.set_2 | refine zf.far ?_ NB0_511.out _) | exact HI0.out)); (case side2 => repeat (first | (with_reducible first | exact HB.out | apply zc | apply zb | apply zd | refine zh ?_ (zf.ge HI0.out) | refine zh ?_ GE511.out) | exact HB.out)); rintro e w8 ⟨rfl, hi, hb, hk⟩; refine ⟨_, rfl, ?_⟩; have n0_ := za.mk (zl.blk hk (g' := gb511) (o := .cells #[.string (⟨#[]⟩ : ByteArray), .int .i64 0, .int .i64 0, .slice none 0 0] 93 (0, 0)) (by (with_reducible repeat (first | refine zt ?_ _ | refine zu ?_ | refine zr ?_ _)); exact BK511.out) NB511_0.out (by simp)); have n1_ := za.mk (zl.trans (by repeat (first | (with_reducible first | exact HK.out | apply zl.set_ | apply zI | apply zO | apply zQ | refine xe ?_ GW511.out _) | exact HK.out)) hk (.inl rfl)); have n2_ := za.mk (hb); have n3_ := za.mk (hi); clear BK511; clear HK; clear HB; clear HI0; have BK511 := n0_; have HK := n1_; have HB := n2_; have HI0 := n3_; clear n0_ n1_ n2_ n3_; (try clear hb); (try clear hb2); (try clear hk); (try clear hi)) | ((with_reducible refine zL (f := 66) rfl ?_); refine z8 (some 8) rfl rfl Try.func66 (by kernel_rfl) rfl #[.pointer (some ⟨g, 0, none⟩)] rfl (by (try simp only [Vw, List.map_cons, List.map_nil]); first | done | rfl | (simp only [List.length_drop, List.length_take]; rfl)) ?_; (with_reducible refine (zw.calls k g t517 t518 t519 t520 t521 t522 t523 w0 _ ?side1 ?side2 A4.out).mono ?_); (case side1 => repeat (first | (with_reducible first | exact HI0.out | apply zf.alloc | apply zf.drewN | apply zf.drew | apply zf.set_0 | apply zf.set_1 | apply zf.set_2 | refine zf.far ?_ NB0_511.out _) | exact HI0.out)); (case side2 => repeat (first | (with_reducible first | exact HB.out | apply zc | apply zb | apply zd | refine zh ?_ (zf.ge HI0.out) | refine zh ?_ GE511.out) | exact HB.out)); rintro e w9 ⟨rfl, hi, hb, hk⟩; refine ⟨_, rfl, ?_⟩; have n0_ := za.mk (zl.blk hk (g' := gb511) (o := .cells #[.string (⟨#[]⟩ : ByteArray), .int .i64 0, .int .i64 0, .slice none 0 0] 93 (0, 0)) (by (with_reducible repeat (first | refine zt ?_ _ | refine zu ?_ | refine zr ?_ _)); exact BK511.out) NB511_0.out (by simp)); have n1_ := za.mk (zl.trans (by repeat (first | (with_reducible first | exact HK.out | apply zl.set_ | apply zI | apply zO | apply zQ | refine xe ?_ GW511.out _) | exact HK.out)) hk (.inl rfl)); have n2_ := za.mk (hb); have n3_ := za.mk (hi); clear BK511; clear HK; clear HB; clear HI0; have BK511 := n0_; have HK := n1_; have HB := n2_; have HI0 := n3_; clear n0_ n1_ n2_ n3_; (try clear hb); (try clear hb2); (try clear hk); (try clear hi)) | ((with_reducible refine zL (f := 68) rfl ?_); refine z8 (some 10) rfl rfl Try.func68 (by kernel_rfl) rfl #[.pointer (some ⟨g, 0, none⟩)] rfl (by (try simp only [Vw, List.map_cons, List.map_nil]); first | done | rfl | (simp only [List.length_drop, List.length_take]; rfl)) ?_; (with_reducible refine (z6.calls k g t521 t522 t523 t524 t527 t528 t529 w0 _ ?side1 ?side2 A5.out).mono ?_); (case side1 => repeat (first | (with_reducible first | exact HI0.out | apply zf.alloc | apply zf.drewN | apply zf.drew | apply zf.set_0 | apply zf.set_1 | apply zf.set_2 | refine zf.far ?_ NB0_511.out _) | exact HI0.out)); (case side2 => repeat (first | (with_reducible first | exact HB.out | apply zc | apply zb | apply zd | refine zh ?_ (zf.ge HI0.out) | refine zh ?_ GE511.out) | exact HB.out)); rintro e w10 ⟨v525, rfl, ho0, hi, hb, hk⟩; refine ⟨_, rfl, ?_⟩; have n0_ := za.mk (zl.blk hk (g' := gb511) (o := .cells #[.string (⟨#[]⟩ : ByteArray), .int .i64 0, .int .i64 0, .slice none 0 0] 93 (0, 0)) (by (with_reducible repeat (first | refine zt ?_ _ | refine zu ?_ | refine zr ?_ _)); exact BK511.out) NB511_0.out (by simp)); have n1_ := za.mk (Kd.R_lower ho0 (xx (w := w) (g := g) (row := none) (by repeat (first | (with_reducible first | exact HK.out | apply zl.set_ | apply zI | apply zO | apply zQ | refine xe ?_ GW511.out _) | exact HK.out)))); have n2_ := za.mk (zl.trans (by repeat (first | (with_reducible first | exact HK.out | apply zl.set_ | apply zI | apply zO | apply zQ | refine xe ?_ GW511.out _) | exact HK.out)) hk (.inl rfl)); have n3_ := za.mk (hb); have n4_ := za.mk (hi); clear BK511; clear HK; clear HB; clear HI0; have BK511 := n0_; have HO526 := n1_; have HK := n2_; have HB := n3_; have HI0 := n4_; clear n0_ n1_ n2_ n3_ n4_; (try clear hb); (try clear hb2); (try clear hk); (try clear hi); (try clear ho0); obtain ⟨Ao11, co11, eo11⟩ := Kd.R_slice HO526.out; subst eo11; have hnb12 := NB511_0.out; have hnc12 := NB0_511.out; have hcz13_0 : w10.cell? ⟨gb511, 0, none⟩ = some (.string (⟨#[]⟩ : ByteArray)) := (zg BK511.out 0).trans rfl; have hcz13_1 : w10.cell? ⟨gb511, 1, none⟩ = some (.int .i64 0) := (zg BK511.out 1).trans rfl; have hcz13_2 : w10.cell? ⟨gb511, 2, none⟩ = some (.int .i64 0) := (zg BK511.out 2).trans rfl; have hcz13_3 : w10.cell? ⟨gb511, 3, none⟩ = some (.slice none 0 0) := (zg BK511.out 3).trans rfl; have hfz13_0 := ze BK511.out 0; have hfz13_1 := ze BK511.out 1; have hfz13_2 := ze BK511.out 2; have hfz13_3 := ze BK511.out 3))
 refine bodyPost_ret (results_cell_row rfl _ _ gb511 93 #[.string t512, .int .i64 t516, .int .i64 t520, .slice Ao11 t524.length co11] (0, 0) _ rfl (by (with_reducible repeat (first | refine zt ?_ _ | refine zu ?_ | refine zr ?_ _)); refine zJ (cs := #[.string t512, .int .i64 t516, .int .i64 t520, .slice none 0 0]) ?_ 3 _ rfl; (with_reducible repeat (first | refine zt ?_ _ | refine zu ?_ | refine zr ?_ _)); refine zJ (cs := #[.string t512, .int .i64 t516, .int .i64 0, .slice none 0 0]) ?_ 2 _ rfl; (with_reducible repeat (first | refine zt ?_ _ | refine zu ?_ | refine zr ?_ _)); refine zJ (cs := #[.string t512, .int .i64 0, .int .i64 0, .slice none 0 0]) ?_ 1 _ rfl; (with_reducible repeat (first | refine zt ?_ _ | refine zu ?_ | refine zr ?_ _)); refine zJ (cs := #[.string (⟨#[]⟩ : ByteArray), .int .i64 0, .int .i64 0, .slice none 0 0]) ?_ 0 _ rfl; (with_reducible repeat (first | refine zt ?_ _ | refine zu ?_ | refine zr ?_ _)); exact BK511.out) Try.underlying93 rfl (by kernel_rfl)) rfl ?_
 exact ⟨_, by first | rfl | (simp [zn, zo] <;> rfl) | (simp [*, zn, zo] <;> rfl), by (with_reducible repeat (first | apply Kd.R_alloc | apply Kd.R_drewN | apply Kd.R_drew)); exact Kd.R_mono (Kd.R_far (p := ⟨gb511, 3, none⟩) (Kd.R_far (p := ⟨gb511, 2, none⟩) (Kd.R_far (p := ⟨gb511, 1, none⟩) (Kd.R_far (p := ⟨gb511, 0, none⟩) (Kd.R_types HO526.out BK511.out (by decide)) (fun _ hk => hk.2) (.string t512)) (fun _ hk => hk.2) (.int .i64 t516)) (fun _ hk => hk.2) (.int .i64 t520)) (fun _ hk => hk.2) (.slice Ao11 t524.length co11)) (fun _ hk => trivial), by repeat (first | (with_reducible first | exact HI0.out | apply zf.alloc | apply zf.drewN | apply zf.drew | apply zf.set_0 | apply zf.set_1 | apply zf.set_2 | refine zf.far ?_ NB0_511.out _) | exact HI0.out), by repeat (first | (with_reducible first | exact HB.out | apply zc | apply zb | apply zd | refine zh ?_ (zf.ge HI0.out) | refine zh ?_ GE511.out) | exact HB.out), by repeat (first | (with_reducible first | exact HK.out | apply zl.set_ | apply zI | apply zO | apply zQ | refine xe ?_ GW511.out _) | exact HK.out)⟩
mutual
def zv.j0 : Nat → Int → Bool → ByteArray → Int → Int → Option ((List (S93)) × ByteArray × Int × Int)
 | 0, _, _, _, _, _ => none
 | k + 1, x7, x22, x1000, x1001, x1002 => if x22 = true then (zv.j1 k x7 x1000 x1001 6) else (zv.j1 k x7 x1000 x1001 x1002)
def zv.j1 : Nat → Int → ByteArray → Int → Int → Option ((List (S93)) × ByteArray × Int × Int)
 | 0, _, _, _, _ => none
 | k + 1, x7, x1000, x1001, x1002 => zv.l0 k x7 ([] : List (S93)) 0 x1000 x1001 x1002
def zv.l0 : Nat → Int → List (S93) → Int → ByteArray → Int → Int → Option ((List (S93)) × ByteArray × Int × Int)
 | 0, _, _, _, _, _, _ => none
 | k + 1, x7, x8, x9, x1000, x1001, x1002 => if x9 < x7 then (if x1002 = 0 then ((xQ.f k x1000 x1001 x1002).bind fun bt535 => (if x8.length < 2513169434916 then (zv.l0 k x7 (x8 ++ [(⟨bt535.1, (⟨bt535.2.1, bt535.2.2.1, bt535.2.2.2.1⟩ : S91)⟩ : S93)]) (wrap64 (x9 + 1)) bt535.2.2.2.2.1 bt535.2.2.2.2.2.1 bt535.2.2.2.2.2.2) else (none))) else (some (x8, x1000, x1001, x1002))) else (some (x8, x1000, x1001, x1002))
end
def zv.f (k : Nat) (s0_0 : ByteArray) (s0_1 : Int) (s0_2 : Int) (a1 : Int)  : Option ((List (S93)) × ByteArray × Int × Int) := (zw.f k s0_0 s0_1 s0_2).bind fun bt530 => (if bt530.2.2.2 = 0 then ((zB.f bt530.1 0 a1).bind fun t534 => (zv.j0 k bt530.1 (!t534) bt530.2.1 bt530.2.2.1 bt530.2.2.2)) else (zv.j0 k bt530.1 false bt530.2.1 bt530.2.2.1 bt530.2.2.2))
theorem zv.calls (k : Nat) (g : Nat) (s0_0 : ByteArray) (s0_1 : Int) (s0_2 : Int) (a1 : Int)  (r1 : List (S93)) (r2 : ByteArray) (r3 : Int) (r4 : Int) (w0 w : World) (hI : zf w0 w g s0_0 s0_1 s0_2) (hB : Below w0.heap.size w0 w) (h : zv.f k s0_0 s0_1 s0_2 a1 = some (r1, r2, r3, r4)) :
  Calls Try.prog 74 #[.pointer (some ⟨g, 0, none⟩), .int .i64 a1, .func (Fn.func 75) #[] #[]] w fun e w' => ∃ v0_ : Value, e = .returned (v0_) ∧ Kd.S k93 93 w' w.heap.size (fun _ => True) v0_ r1 ∧ zf w0 w' g r2 r3 r4 ∧ Below w0.heap.size w0 w' ∧ zl w w' g none := by
 have HI0 := za.mk hI
 have HK := za.mk (zl.refl w g none)
 have HL := za.mk hB.size
 clear hI
 have HW0 := za.mk hB.size
 have HB := za.mk hB
 clear hB
 have H : ((zw.f k s0_0 s0_1 s0_2).bind fun bt530 => (if bt530.2.2.2 = 0 then ((zB.f bt530.1 0 a1).bind fun t534 => (zv.j0 k bt530.1 (!t534) bt530.2.1 bt530.2.2.1 bt530.2.2.2)) else (zv.j0 k bt530.1 false bt530.2.1 bt530.2.2.1 bt530.2.2.2))) = some (r1, r2, r3, r4) := h
 clear h
 replace H := Vx.mp H
 obtain ⟨⟨t530, t531, t532, t533⟩, A40, H⟩ := H
 replace H : (if t533 = 0 then ((zB.f t530 0 a1).bind fun t534 => (zv.j0 k t530 (!t534) t531 t532 t533)) else (zv.j0 k t530 false t531 t532 t533)) = some (r1, r2, r3, r4) := H
 have A4 := za.mk A40
 clear A40
 have HC5 := za.mk H
 clear H
 go_enter Try.func74, Try.ntmps74
 go_upto_region 2 with (first | ((with_reducible refine zL (f := 66) rfl ?_); refine z8 (some 11) rfl rfl Try.func66 (by kernel_rfl) rfl #[.pointer (some ⟨g, 0, none⟩)] rfl (by (try simp only [Vw, List.map_cons, List.map_nil]); first | done | rfl | (simp only [List.length_drop, List.length_take]; rfl)) ?_; (with_reducible refine (zw.calls k g s0_0 s0_1 s0_2 t530 t531 t532 t533 w0 _ ?side1 ?side2 A4.out).mono ?_); (case side1 => repeat (first | (with_reducible first | exact HI0.out | apply zf.alloc | apply zf.drewN | apply zf.drew | apply zf.set_0 | apply zf.set_1 | apply zf.set_2) | exact HI0.out)); (case side2 => repeat (first | (with_reducible first | exact HB.out | apply zc | apply zb | apply zd | refine zh ?_ (zf.ge HI0.out)) | exact HB.out)); rintro e w6 ⟨rfl, hi, hb, hk⟩; refine ⟨_, rfl, ?_⟩; have n0_ := za.mk (zl.trans (by repeat (first | (with_reducible first | exact HK.out | apply zl.set_ | apply zI | apply zO | apply zQ) | exact HK.out)) hk (.inl rfl)); have n1_ := za.mk (hb); have n2_ := za.mk (hi); clear HK; clear HB; clear HI0; have HK := n0_; have HB := n1_; have HI0 := n2_; clear n0_ n1_ n2_; (try clear hb); (try clear hb2); (try clear hk); (try clear hi)))
 (try simp only [Act.put, Vt, Vu, Vv])
 go_cut [22] (fun v22 wc => ∃ (kq : Nat) (x22_4 : Bool), v22 = .bool x22_4 ∧ za (zv.j0 kq t530 x22_4 t531 t532 t533 = some (r1, r2, r3, r4)) ∧ za (kq ≤ k) ∧ za (zf w0 wc g t531 t532 t533) ∧ za (zl w wc g none) ∧ za (Below w0.heap.size w0 wc))
 case first =>
  have H := HC5.out
  clear HC5
  by_cases c7 : t533 = 0
  ·rw [if_pos c7] at H
   have c7b0 : (t533 == 0) = true := beq_iff_eq.mpr c7
   have c7b1 : (t533 != 0) = false := bne_eq_false_iff_eq.mpr c7
   clear c7
   (first | rw [c7b0] | (simp only [zx, zz]; rw [c7b0]) | skip)
   replace H := Vx.mp H
   obtain ⟨t534, A80, H⟩ := H
   replace H : (zv.j0 k t530 (!t534) t531 t532 t533) = some (r1, r2, r3, r4) := H
   have A8 := za.mk A80
   clear A80
   have H' := za.mk H
   clear H
   obtain ⟨HGz9, hgz9⟩ := HI0.out
   have hcz9_0 := yd HGz9
   have hcz9_1 := yc HGz9
   have hcz9_2 := ye HGz9
   have hfz9_0 := ze HGz9 0
   have hfz9_1 := ze HGz9 1
   have hfz9_2 := ze HGz9 2
   clear HGz9 hgz9
   go_wp2_with (first | (go_at_call 90; (with_reducible refine (zB.calls t530 0 a1 t534 _ A8.out).mono ?_); rintro e w' ⟨rfl, ⟨nd, rfl⟩⟩))
   go_meet
   case rel => exact ⟨_, (!t534), (by first | rfl | (simp; done) | (simp [*]; done)), H', ⟨by first | omega | exact Nat.le_refl _⟩, ⟨by repeat (first | (with_reducible first | exact HI0.out | apply zf.alloc | apply zf.drewN | apply zf.drew | apply zf.set_0 | apply zf.set_1 | apply zf.set_2) | exact HI0.out)⟩, ⟨by repeat (first | (with_reducible first | exact HK.out | apply zl.set_ | apply zI | apply zO | apply zQ) | exact HK.out)⟩, ⟨by repeat (first | (with_reducible first | exact HB.out | apply zc | apply zb | apply zd | refine zh ?_ (zf.ge HI0.out)) | exact HB.out)⟩⟩
  ·rw [if_neg c7] at H
   have c7b0 : (t533 == 0) = false := beq_eq_false_iff_ne.mpr c7
   have c7b1 : (t533 != 0) = true := bne_iff_ne.mpr c7
   (first | rw [c7b0] | (simp only [zx, zz]; rw [c7b0]) | skip)
   have H' := za.mk H
   clear H
   obtain ⟨HGz10, hgz10⟩ := HI0.out
   have hcz10_0 := yd HGz10
   have hcz10_1 := yc HGz10
   have hcz10_2 := ye HGz10
   have hfz10_0 := ze HGz10 0
   have hfz10_1 := ze HGz10 1
   have hfz10_2 := ze HGz10 2
   clear HGz10 hgz10
   go_wp2
   go_meet
   case rel => exact ⟨_, (false), (by first | rfl | (simp; done) | (simp [*]; done)), H', ⟨by first | omega | exact Nat.le_refl _⟩, ⟨by repeat (first | (with_reducible first | exact HI0.out | apply zf.alloc | apply zf.drewN | apply zf.drew | apply zf.set_0 | apply zf.set_1 | apply zf.set_2) | exact HI0.out)⟩, ⟨by repeat (first | (with_reducible first | exact HK.out | apply zl.set_ | apply zI | apply zO | apply zQ) | exact HK.out)⟩, ⟨by repeat (first | (with_reducible first | exact HB.out | apply zc | apply zb | apply zd | refine zh ?_ (zf.ge HI0.out)) | exact HB.out)⟩⟩
 case rest =>
  clear HC5
  try clear p2
  try clear c6
  try clear c7
  try clear c7b0
  try clear c7b1
  try clear c9
  try clear hcz10_0
  try clear hcz10_1
  try clear hcz10_2
  try clear hcz9_0
  try clear hcz9_1
  try clear hcz9_2
  try clear hfz10_0
  try clear hfz10_1
  try clear hfz10_2
  try clear hfz9_0
  try clear hfz9_1
  try clear hfz9_2
  obtain ⟨kq, x22_4, rfl, HA, HJ4, HI0, HK, HB⟩ := hcut
  cases kq with
  | zero => exact absurd HA.out (by simp [zv.j0])
  | succ kj4 =>
   have H := HA.out
   clear HA
   simp only [zv.j0] at H
   have HC11 := za.mk H
   clear H
   go_upto_if 22 with (fail)
   go_cut [] (fun wc => ∃ (kq : Nat) (x1002_10 : Int), za (zv.j1 kq t530 t531 t532 x1002_10 = some (r1, r2, r3, r4)) ∧ za (kq ≤ kj4) ∧ za (zf w0 wc g t531 t532 x1002_10) ∧ za (zl w wc g none) ∧ za (Below w0.heap.size w0 wc))
   case first =>
    have H := HC11.out
    clear HC11
    by_cases c12 : x22_4 = true
    ·subst c12
     have H1 : (zv.j1 kj4 t530 t531 t532 6) = some (r1, r2, r3, r4) := by rw [if_pos rfl] at H; exact H
     clear H
     have H := H1
     clear H1
     have H' := za.mk H
     clear H
     obtain ⟨HGz13, hgz13⟩ := HI0.out
     have hcz13_0 := yd HGz13
     have hcz13_1 := yc HGz13
     have hcz13_2 := ye HGz13
     have hfz13_0 := ze HGz13 0
     have hfz13_1 := ze HGz13 1
     have hfz13_2 := ze HGz13 2
     clear HGz13 hgz13
     go_wp2
     go_meet
     case rel => exact ⟨_, (6), H', ⟨by have := HJ4.out; first | omega | exact Nat.le_refl _⟩, ⟨by repeat (first | (with_reducible first | exact HI0.out | apply zf.alloc | apply zf.drewN | apply zf.drew | apply zf.set_0 | apply zf.set_1 | apply zf.set_2) | exact HI0.out)⟩, ⟨by repeat (first | (with_reducible first | exact HK.out | apply zl.set_ | apply zI | apply zO | apply zQ) | exact HK.out)⟩, ⟨by repeat (first | (with_reducible first | exact HB.out | apply zc | apply zb | apply zd | refine zh ?_ (zf.ge HI0.out)) | exact HB.out)⟩⟩
    ·replace c12 := VA.mpr c12
     subst c12
     have H1 : (zv.j1 kj4 t530 t531 t532 t533) = some (r1, r2, r3, r4) := by rw [if_neg (show ¬ (false = true) by decide)] at H; exact H
     clear H
     have H := H1
     clear H1
     have H' := za.mk H
     clear H
     go_wp2
     go_meet
     case rel => exact ⟨_, (t533), H', ⟨by have := HJ4.out; first | omega | exact Nat.le_refl _⟩, ⟨by repeat (first | (with_reducible first | exact HI0.out | apply zf.alloc | apply zf.drewN | apply zf.drew | apply zf.set_0 | apply zf.set_1 | apply zf.set_2) | exact HI0.out)⟩, ⟨by repeat (first | (with_reducible first | exact HK.out | apply zl.set_ | apply zI | apply zO | apply zQ) | exact HK.out)⟩, ⟨by repeat (first | (with_reducible first | exact HB.out | apply zc | apply zb | apply zd | refine zh ?_ (zf.ge HI0.out)) | exact HB.out)⟩⟩
   case rest =>
    clear HC11
    try clear c1
    try clear p2
    try clear c6
    try clear c7
    try clear c7b0
    try clear c7b1
    try clear c9
    try clear c12
    try clear hcz10_0
    try clear hcz10_1
    try clear hcz10_2
    try clear hcz13_0
    try clear hcz13_1
    try clear hcz13_2
    try clear hcz9_0
    try clear hcz9_1
    try clear hcz9_2
    try clear hfz10_0
    try clear hfz10_1
    try clear hfz10_2
    try clear hfz13_0
    try clear hfz13_1
    try clear hfz13_2
    try clear hfz9_0
    try clear hfz9_1
    try clear hfz9_2
    try clear p2
    obtain ⟨kq, x1002_10, HA, HJ10, HI0, HK, HB⟩ := hcut
    cases kq with
    | zero => exact absurd HA.out (by simp [zv.j1])
    | succ kj10 =>
     have H := HA.out
     clear HA
     simp only [zv.j1] at H
     have H' := za.mk H
     clear H
     go_wp2
     go_loopg [8, 9] kj10 (fun kq v8 v9 w' => ∃ (x8_3 : List (S93)) (x9_3 : Int) (x1000_3 : ByteArray) (x1001_3 : Int) (x1002_3 : Int), v9 = .int .i64 x9_3 ∧ za (zv.l0 kq t530 x8_3 x9_3 x1000_3 x1001_3 x1002_3 = some (r1, r2, r3, r4)) ∧ za (kq ≤ kj10) ∧ za (Kd.S k93 93 w' w.heap.size (fun _ => True) v8 x8_3) ∧ za (zf w0 w' g x1000_3 x1001_3 x1002_3) ∧ za (zl w w' g none) ∧ za (Below w0.heap.size w0 w'))
     case atStart => exact ⟨(([] : List (S93))), (0), (t531), (t532), (x1002_10), (by first | rfl | (simp; done) | (simp [*]; done)), H', ⟨Nat.le_refl _⟩, ⟨by first | exact Kd.S_nil _ _ _ _ _ | exact Kd.N_nil _ _ _ _ _ | exact Kd.V_nil _ _ _ _ _ | exact Kd.Q_nil _ _ _ _ _ | exact Kd.R_nil _ _ _ _ _⟩, ⟨by repeat (first | (with_reducible first | exact HI0.out | apply zf.alloc | apply zf.drewN | apply zf.drew | apply zf.set_0 | apply zf.set_1 | apply zf.set_2) | exact HI0.out)⟩, ⟨by repeat (first | (with_reducible first | exact HK.out | apply zl.set_ | apply zI | apply zO | apply zQ) | exact HK.out)⟩, ⟨by repeat (first | (with_reducible first | exact HB.out | apply zc | apply zb | apply zd | refine zh ?_ (zf.ge HI0.out)) | exact HB.out)⟩⟩
     case round =>
      clear H'
      try clear c1
      try clear p2
      try clear c6
      try clear c7
      try clear c7b0
      try clear c7b1
      try clear c9
      try clear c12
      try clear hcz10_0
      try clear hcz10_1
      try clear hcz10_2
      try clear hcz13_0
      try clear hcz13_1
      try clear hcz13_2
      try clear hcz9_0
      try clear hcz9_1
      try clear hcz9_2
      try clear hfz10_0
      try clear hfz10_1
      try clear hfz10_2
      try clear hfz13_0
      try clear hfz13_1
      try clear hfz13_2
      try clear hfz9_0
      try clear hfz9_1
      try clear hfz9_2
      try clear p2
      obtain ⟨x8_3, x9_3, x1000_3, x1001_3, x1002_3, rfl, HA, HK3, HO_8, HI0, HK, HB⟩ := hrel
      cases gk with
      | zero => exact absurd HA.out (by simp [zv.l0])
      | succ k3 =>
       have H := HA.out
       clear HA
       simp only [zv.l0] at H
       by_cases c14 : x9_3 < t530
       ·rw [if_pos c14] at H
        have c14b0 : decide (x9_3 < t530) = true := decide_eq_true c14
        clear c14
        by_cases c15 : x1002_3 = 0
        ·rw [if_pos c15] at H
         have c15b0 : (x1002_3 == 0) = true := beq_iff_eq.mpr c15
         have c15b1 : (x1002_3 != 0) = false := bne_eq_false_iff_eq.mpr c15
         clear c15
         replace H := Vx.mp H
         obtain ⟨⟨t535, t536, t537, t538, t541, t542, t543⟩, A160, H⟩ := H
         replace H : (if x8_3.length < 2513169434916 then (zv.l0 k3 t530 (x8_3 ++ [(⟨t535, (⟨t536, t537, t538⟩ : S91)⟩ : S93)]) (wrap64 (x9_3 + 1)) t541 t542 t543) else (none)) = some (r1, r2, r3, r4) := H
         have A16 := za.mk A160
         clear A160
         by_cases c17 : x8_3.length < 2513169434916
         ·rw [if_pos c17] at H
          have LMc17 := za.mk c17
          clear c17
          obtain ⟨y544, hy544⟩ : ∃ y_ : List (S93), y_ = (x8_3 ++ [(⟨t535, (⟨t536, t537, t538⟩ : S91)⟩ : S93)]) := ⟨_, rfl⟩
          replace H : (zv.l0 k3 t530 y544 (wrap64 (x9_3 + 1)) t541 t542 t543) = some (r1, r2, r3, r4) := by first | (rw [hy544]; with_reducible exact H) | (have H2_ := (Option.bind_some _ _).symm.trans H; rw [hy544]; with_reducible exact H2_) | (have H2_ := (Option.bind_some _ _).symm.trans H; with_reducible exact H2_) | with_reducible exact H | (rw [hy544]; exact H) | exact H
          have Ny544 := za.mk hy544
          clear hy544
          have H' := za.mk H
          clear H
          obtain ⟨HGz18, hgz18⟩ := HI0.out
          have hcz18_0 := yd HGz18
          have hcz18_1 := yc HGz18
          have hcz18_2 := ye HGz18
          have hfz18_0 := ze HGz18 0
          have hfz18_1 := ze HGz18 1
          have hfz18_2 := ze HGz18 2
          clear HGz18 hgz18
          go_wp2_with (first | ((with_reducible refine zC (N := 41) rfl ?_); refine qo (some 41) rfl rfl Try.func75 (by kernel_rfl) rfl #[.pointer (some ⟨g, 0, none⟩)] rfl (by (try simp only [Vw, List.map_cons, List.map_nil]); first | done | rfl | (simp only [List.length_drop, List.length_take]; rfl)) ?_; (with_reducible refine (xQ.calls k3 g x1000_3 x1001_3 x1002_3 t535 t536 t537 t538 t541 t542 t543 w0 _ ?side1 ?side2 A16.out).mono ?_); (case side1 => repeat (first | (with_reducible first | exact HI0.out | apply zf.alloc | apply zf.drewN | apply zf.drew | apply zf.set_0 | apply zf.set_1 | apply zf.set_2) | exact HI0.out)); (case side2 => repeat (first | (with_reducible first | exact HB.out | apply zc | apply zb | apply zd | refine zh ?_ (zf.ge HI0.out)) | exact HB.out)); rintro e w19 ⟨v539, rfl, ho0, hi, hb, hk⟩; refine ⟨_, rfl, ?_⟩; have n0_ := za.mk (Kd.S_mono (Kd.S_told (Kd.S_oldK (zf.apartS (show zf w0 _ g x1000_3 x1001_3 x1002_3 from by repeat (first | (with_reducible first | exact HI0.out | apply zf.alloc | apply zf.drewN | apply zf.drew | apply zf.set_0 | apply zf.set_1 | apply zf.set_2) | exact HI0.out)) (by (with_reducible repeat (first | apply Kd.S_alloc | apply Kd.S_drewN | apply Kd.S_drew)); exact HO_8.out) (by decide)) hk) (Kd.R_base ho0)) (fun _ h_ => h_.1)); have n1_ := za.mk (Kd.R_lower ho0 (xx (w := w) (g := g) (row := none) (by repeat (first | (with_reducible first | exact HK.out | apply zl.set_ | apply zI | apply zO | apply zQ) | exact HK.out)))); have n2_ := za.mk (zl.trans (by repeat (first | (with_reducible first | exact HK.out | apply zl.set_ | apply zI | apply zO | apply zQ) | exact HK.out)) hk (.inl rfl)); have n3_ := za.mk (hb); have n4_ := za.mk (hi); clear HO_8; clear HK; clear HB; clear HI0; have HO_8 := n0_; have HO540 := n1_; have HK := n2_; have HB := n3_; have HI0 := n4_; clear n0_ n1_ n2_ n3_ n4_; (try clear hb); (try clear hb2); (try clear hk); (try clear hi); (try clear ho0); obtain ⟨Ao21, co21, eo21⟩ := Kd.R_slice HO540.out; subst eo21) | ((with_reducible refine xY (b := .append) (xs := #[.tmp 38, .tmp 42]) rfl ?_); at_builtin; refine Kd.S_append k93 w.heap.size rfl (.tmp 38) (.tmp 42) 42 93 (.agg #[(.string ⟨#[]⟩), (.int .i64 0), (.int .i64 0), (.slice none 0 0)]) 56 rfl Try.underlying42 Vn rfl (by decide) (by omega) u8 x8_3 (⟨t535, (⟨t536, t537, t538⟩ : S91)⟩ : S93) [.string t535, .int .i64 t536, .int .i64 t537, .slice Ao21 t538.length co21] (fun _ => True) (fun k_ => some k_ = (.slice Ao21 t538.length co21 : Value).ownBlock) rfl rfl ?aP (fun k_ hk_ => ((Kd.R_mono (ok' := fun k_ => ((fun _ => True)) k_ ∧ some k_ ≠ (u8 : Value).ownBlock) (Kd.R_apart' (HO540.out) (Kd.S_typed HO_8.out) (by decide)) (fun k_ hk => ⟨trivial, hk.2⟩))).1 k_ hk_.symm) ?aF ?aO (Below.refl _ _) ?aS ?aL ?_; (case aP => exact J4 _ _ _ (⟨t535, (⟨t536, t537, t538⟩ : S91)⟩ : S93) (Kd.R_mono (Kd.R_tight rfl (Kd.R_mono (ok' := fun k_ => ((fun _ => True)) k_ ∧ some k_ ≠ (u8 : Value).ownBlock) (Kd.R_apart' (HO540.out) (Kd.S_typed HO_8.out) (by decide)) (fun k_ hk => ⟨trivial, hk.2⟩))) (fun _ h_ => h_))); (case aF => exact (fun _ _ => trivial)); (case aO => exact (by (with_reducible repeat (first | apply Kd.S_alloc | apply Kd.S_drewN | apply Kd.S_drew)); exact Kd.S_mono HO_8.out (fun k_ hk => ⟨trivial, fun e_ => hk.2 e_⟩))); (case aS => exact (xx (w := w) (g := g) (row := none) (by repeat (first | (with_reducible first | exact HK.out | apply zl.set_ | apply zI | apply zO | apply zQ) | exact HK.out)))); (case aL => have := LMc17.out; omega); intro v545 w20 ho hb hg hat; rw [← Ny544.out] at ho; have n0_ := za.mk (zf.grown (by repeat (first | (with_reducible first | exact HI0.out | apply zf.alloc | apply zf.drewN | apply zf.drew | apply zf.set_0 | apply zf.set_1 | apply zf.set_2) | exact HI0.out)) hg (zf.own_neS HI0.out HO_8.out (by decide))); have n1_ := za.mk (jg (by repeat (first | (with_reducible first | exact HB.out | apply zc | apply zb | apply zd | refine zh ?_ (zf.ge HI0.out)) | exact HB.out)) HL.out hb); have n2_ := za.mk (zl.trans (by repeat (first | (with_reducible first | exact HK.out | apply zl.set_ | apply zI | apply zO | apply zQ) | exact HK.out)) (zl.of_grown hg g) (Kd.S_base2 HO_8.out)); have n3_ := za.mk (ho); clear HI0; clear HB; clear HK; clear HO_8; clear HO540; have HI0 := n0_; have HB := n1_; have HK := n2_; have HO546 := n3_; clear n0_ n1_ n2_ n3_; clear ho hb hg hat))
          go_roundg k3
          case measure => have := HJ4.out; have := HJ10.out; have := HK3.out; omega
          case rel => exact ⟨(y544), (wrap64 (x9_3 + 1)), (t541), (t542), (t543), (by first | rfl | (simp; done) | (simp [*]; done)), H', ⟨by have := HJ4.out; have := HJ10.out; have := HK3.out; omega⟩, ⟨by (with_reducible repeat (first | apply Kd.S_alloc | apply Kd.S_drewN | apply Kd.S_drew)); exact HO546.out⟩, ⟨by repeat (first | (with_reducible first | exact HI0.out | apply zf.alloc | apply zf.drewN | apply zf.drew | apply zf.set_0 | apply zf.set_1 | apply zf.set_2) | exact HI0.out)⟩, ⟨by repeat (first | (with_reducible first | exact HK.out | apply zl.set_ | apply zI | apply zO | apply zQ) | exact HK.out)⟩, ⟨by repeat (first | (with_reducible first | exact HB.out | apply zc | apply zb | apply zd | refine zh ?_ (zf.ge HI0.out)) | exact HB.out)⟩⟩
         ·rw [if_neg c17] at H
          exact absurd H (by simp)
        ·rw [if_neg c15] at H
         have c15b0 : (x1002_3 == 0) = false := beq_eq_false_iff_ne.mpr c15
         have c15b1 : (x1002_3 != 0) = true := bne_iff_ne.mpr c15
         simp only [Option.some.injEq, Prod.mk.injEq] at H
         obtain ⟨rfl, rfl, rfl, rfl⟩ := H
         obtain ⟨HGz22, hgz22⟩ := HI0.out
         have hcz22_0 := yd HGz22
         have hcz22_1 := yc HGz22
         have hcz22_2 := ye HGz22
         have hfz22_0 := ze HGz22 0
         have hfz22_1 := ze HGz22 1
         have hfz22_2 := ze HGz22 2
         clear HGz22 hgz22
         go_wp2
         go_ret
         exact ⟨_, by first | rfl | (simp [zn, zo] <;> rfl) | (simp [*, zn, zo] <;> rfl), by (with_reducible repeat (first | apply Kd.S_alloc | apply Kd.S_drewN | apply Kd.S_drew)); exact HO_8.out, by repeat (first | (with_reducible first | exact HI0.out | apply zf.alloc | apply zf.drewN | apply zf.drew | apply zf.set_0 | apply zf.set_1 | apply zf.set_2) | exact HI0.out), by repeat (first | (with_reducible first | exact HB.out | apply zc | apply zb | apply zd | refine zh ?_ (zf.ge HI0.out)) | exact HB.out), by repeat (first | (with_reducible first | exact HK.out | apply zl.set_ | apply zI | apply zO | apply zQ) | exact HK.out)⟩
       ·rw [if_neg c14] at H
        have c14b0 : decide (x9_3 < t530) = false := decide_eq_false c14
        clear c14
        simp only [Option.some.injEq, Prod.mk.injEq] at H
        obtain ⟨rfl, rfl, rfl, rfl⟩ := H
        go_wp2
        go_ret
        exact ⟨_, by first | rfl | (simp [zn, zo] <;> rfl) | (simp [*, zn, zo] <;> rfl), by (with_reducible repeat (first | apply Kd.S_alloc | apply Kd.S_drewN | apply Kd.S_drew)); exact HO_8.out, by repeat (first | (with_reducible first | exact HI0.out | apply zf.alloc | apply zf.drewN | apply zf.drew | apply zf.set_0 | apply zf.set_1 | apply zf.set_2) | exact HI0.out), by repeat (first | (with_reducible first | exact HB.out | apply zc | apply zb | apply zd | refine zh ?_ (zf.ge HI0.out)) | exact HB.out), by repeat (first | (with_reducible first | exact HK.out | apply zl.set_ | apply zI | apply zO | apply zQ) | exact HK.out)⟩
def xz.f (k : Nat) (a0 : ByteArray) (a1 : Int) : Option (List S93 × Int × Int) := (zv.f k a0 a1 0 64).bind fun t => if t.2.2.2 = 0 then (yl.f k t.1).bind fun b => if b = true then some (t.1, t.2.2.1, 0) else some ([], 0, 6) else some ([], 0, t.2.2.2)
theorem xz.calls (k : Nat) (a0 : ByteArray) (a1 : Int) (r1 : List S93) (r2 : Int) (r3 : Int) (w : World) (h : xz.f k a0 a1 = some (r1, r2, r3)) :
  Calls Try.prog 30 #[.string a0, .int .i64 a1] w fun e w' => ∃ v0_ : Value, e = .returned (.tuple #[v0_, .int .i64 r2, .int .i64 r3]) ∧ Kd.S k93 93 w' w.heap.size (fun _ => True) v0_ r1 ∧ Below w.heap.size w w' := by
 unfold xz.f at h
 rw [Vx] at h
 obtain ⟨⟨x1, x2, x3, x4⟩, hx, h⟩ := h
 replace h : (if x4 = 0 then (yl.f k x1).bind fun b => if b = true then some (x1, x3, (0 : Int)) else some ([], 0, 6) else some ([], 0, x4)) = some (r1, r2, r3) := h
 have HX := za.mk hx
 clear hx
 by_cases c0 : x4 = 0
 ·subst c0
  rw [if_pos rfl, Vx] at h
  obtain ⟨b, hb, h⟩ := h
  have HOK := za.mk hb
  clear hb
  cases b with
  | true =>
   rw [if_pos rfl] at h
   simp only [Option.some.injEq, Prod.mk.injEq] at h
   obtain ⟨rfl, rfl, rfl⟩ := h
   go_enter Try.func30, Try.ntmps30
   go_wp2_with (first | (go_at_call 74; refine (zv.calls k w.heap.size a0 a1 0 64 x1 x2 x3 _ w _ (zf.new w w a0 a1 0 (Below.refl _ _)) (zc (Below.refl _ _) _) HX.out).mono ?_; rintro e w1 ⟨v0, rfl, hR, hI, hB, hK⟩; obtain ⟨A, c, rfl, hl, hC⟩ := Kd.S_reads hR; have HR := za.mk (zf.apartS hI (Kd.S_lower hR (Below.size (zc (Below.refl w.heap.size w) _))) (by decide)); have HI := za.mk hI; have HB := za.mk hB; have HL := za.mk hl; have HC := za.mk hC; clear hR hI hB hK hl hC) | (go_at_call 73; refine (Yt k w.heap.size x2 x3 A c x1 w _ HI.out HB.out HC.out HL.out HOK.out).mono ?_; rintro e w2 ⟨rfl, hI2, hB2, hK2⟩; have HB2 := za.mk hB2; have HK2 := za.mk hK2; clear hI2 hB2 hK2))
   go_ret3
   exact ⟨_, rfl, Kd.S_mono (Kd.S_keep HR.out HK2.out (fun _ hk => hk.2)) (fun _ _ => trivial), HB2.out⟩
  | false =>
   rw [if_neg (by decide)] at h
   simp only [Option.some.injEq, Prod.mk.injEq] at h
   obtain ⟨rfl, rfl, rfl⟩ := h
   go_enter Try.func30, Try.ntmps30
   go_wp2_with (first | (go_at_call 74; refine (zv.calls k w.heap.size a0 a1 0 64 x1 x2 x3 _ w _ (zf.new w w a0 a1 0 (Below.refl _ _)) (zc (Below.refl _ _) _) HX.out).mono ?_; rintro e w1 ⟨v0, rfl, hR, hI, hB, hK⟩; obtain ⟨A, c, rfl, hl, hC⟩ := Kd.S_reads hR; have HR := za.mk (zf.apartS hI (Kd.S_lower hR (Below.size (zc (Below.refl w.heap.size w) _))) (by decide)); have HI := za.mk hI; have HB := za.mk hB; have HL := za.mk hl; have HC := za.mk hC; clear hR hI hB hK hl hC) | (go_at_call 73; refine (ZL k w.heap.size x2 x3 A c x1 w _ HI.out HB.out HC.out HL.out HOK.out).mono ?_; rintro e w2 ⟨rfl, hI2, hB2, hK2⟩; have HB2 := za.mk hB2; have HK2 := za.mk hK2; clear hI2 hB2 hK2))
   go_ret3
   exact ⟨_, rfl, Kd.S_nil _ _ _ _ _, HB2.out⟩
 ·rw [if_neg c0] at h
  simp only [Option.some.injEq, Prod.mk.injEq] at h
  obtain ⟨rfl, rfl, rfl⟩ := h
  have C0 := za.mk c0
  clear c0
  go_enter Try.func30, Try.ntmps30
  go_wp2_with (first | (go_at_call 74; refine (zv.calls k w.heap.size a0 a1 0 64 x1 x2 x3 _ w _ (zf.new w w a0 a1 0 (Below.refl _ _)) (zc (Below.refl _ _) _) HX.out).mono ?_; rintro e w1 ⟨v0, rfl, hR, hI, hB, hK⟩; obtain ⟨A, c, rfl, hl, hC⟩ := Kd.S_reads hR; have HR := za.mk (zf.apartS hI (Kd.S_lower hR (Below.size (zc (Below.refl w.heap.size w) _))) (by decide)); have HI := za.mk hI; have HB := za.mk hB; have HL := za.mk hl; have HC := za.mk hC; clear hR hI hB hK hl hC) | (go_at_call 73; refine (Y5 k w.heap.size x2 x3 A c x1 w _ x4 C0.out HI.out HB.out HC.out HL.out).mono ?_; rintro e w2 ⟨rfl, hI2, hB2, hK2⟩; have HB2 := za.mk hB2; have HK2 := za.mk hK2; clear hI2 hB2 hK2))
  go_ret3
  exact ⟨_, rfl, Kd.S_nil _ _ _ _ _, HB2.out⟩
end Go.Proofs.Ytbfehjncllkogaa.Q
