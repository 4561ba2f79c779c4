/- Texts of this session laid together (shrink.py): what the claim's law rests on. -/
import Derived.Below
import Derived.Deep.Draws
import Derived.Deep.AppendLies
import Derived.Maps.AppendAt
import Derived.OwnWalk
import Derived.Laws.BytesArg
import Derived.Laws.MakeOwn
import Derived.Laws.OwnMore
import Derived.Deep.OwnRows
import Derived.Tactics
import Derived.Lib.ConvBytes
import Derived.Laws.Slices
import Derived.WalkKit
import Derived.KernelRfl
import Derived.RowKit3
import Derived.Deep.LoopGhost
import Derived.Deep.QuietTactic
import Derived.BigQuiet
import Derived.WideLaws
import Derived.Deep.DeepCutAuto
import Derived.Deep.CutBlock
import Derived.Deep.RegionHeld3
import Derived.Laws.Rows
import Derived.Lib.AppendStr
import Derived.ArgAppend
import Derived.Laws.IdiomCopy
import Derived.RowKit
import Derived.OrdersHeld
import Derived.Laws.BitsLemmas
import Derived.Laws.StructEq
import Derived.Test.YtbfehjncllkogaaProg
import Derived.WalkMore
import Derived.Lib.Strings
import Derived.Outline
import Derived.Test.YtbfehjncllkogaaTCodecCmdsb
set_option linter.unusedVariables false
set_option linter.unusedSimpArgs false
set_option maxRecDepth 100000
set_option maxHeartbeats 8000000
open Bool renaming true → ZT, false → ZF
namespace Go.Proofs.Ytbfehjncllkogaa.Q
open Go.RowKit Go.Proofs.YtbfehjncllkogaaW.PrintWords Go.Proofs.YtbfehjncllkogaaW.PrintLast Go.Proofs.YtbfehjncllkogaaW.PrintMore
def codec_ReadCmd.f (k : Nat) (a0 : ByteArray) (a1 : Int) : Option (Int × Int × ByteArray × Int × (List Int) × Int × Int × Int) := (codec_reader_number.f k a0 a1 0).bind fun t1 => (codec_reader_number.f k t1.2.1 t1.2.2.1 t1.2.2.2).bind fun t2 => (codec_reader_text.f k t2.2.1 t2.2.2.1 t2.2.2.2).bind fun t3 => (codec_reader_number.f k t3.2.1 t3.2.2.1 t3.2.2.2).bind fun t4 => (codec_reader_numbers.f k t4.2.1 t4.2.2.1 t4.2.2.2).bind fun t5 => (codec_reader_number.f k t5.2.1 t5.2.2.1 t5.2.2.2).bind fun t6 => if t6.2.2.2 = 0 then (codec_cmd.f k t1.1 t2.1 t3.1 t4.1 t5.1 t6.1).bind fun b => if b = true then some (t1.1, t2.1, t3.1, t4.1, t5.1, t6.1, t6.2.2.1, 0) else some (0, 0, (⟨#[]⟩ : ByteArray), 0, [], 0, 0, 6) else some (0, 0, (⟨#[]⟩ : ByteArray), 0, [], 0, 0, t6.2.2.2)
theorem codec_ReadCmd.mono : ∀ a0 a1 k, LeO (codec_ReadCmd.f k a0 a1) (codec_ReadCmd.f (k + 1) a0 a1) := by
 intro a0 a1 k
 unfold codec_ReadCmd.f
 exact LeO.bind (codec_reader_number.mono _ _ _ _) (fun _ => LeO.bind (codec_reader_number.mono _ _ _ _) (fun _ => LeO.bind (codec_reader_text.mono _ _ _ _) (fun _ => LeO.bind (codec_reader_number.mono _ _ _ _) (fun _ => LeO.bind (codec_reader_numbers.mono _ _ _ _) (fun _ => LeO.bind (codec_reader_number.mono _ _ _ _) (fun _ => LeO.ite (LeO.bind (codec_cmd.mono _ _ _ _ _ _ _) (fun _ => LeO.refl _)) (LeO.refl _)))))))
theorem codec_ReadCmd.calls (k : Nat) (a0 : ByteArray) (a1 : Int) (r1 : Int) (r2 : Int) (r3 : ByteArray) (r4 : Int) (r5 : List Int) (r6 : Int) (r7 : Int) (r8 : Int) (w : World) (h : codec_ReadCmd.f k a0 a1 = some (r1, r2, r3, r4, r5, r6, r7, r8)) :
  Calls Try.prog 28 #[.string a0, .int .i64 a1] w fun e w' => ∃ v_ : Value, e = .returned (.tuple #[.agg #[.int .i64 r1, .int .i64 r2, .string r3, .int .i64 r4, v_, .int .i64 r6], .int .i64 r7, .int .i64 r8]) ∧ Kd.R (Kd.int .i64) 3 w' w.heap.size (fun _ => True) v_ r5 ∧ Below w.heap.size w w' := by
 unfold codec_ReadCmd.f at h
 have HB := Aside0.mk (Below.refl w.heap.size w)
 rw [Option.bind_eq_some_iff] at h
 obtain ⟨⟨v1, s1, p1, e1⟩, hx1, h⟩ := h
 have HX1 := Aside0.mk hx1
 clear hx1
 dsimp only at h HX1
 rw [Option.bind_eq_some_iff] at h
 obtain ⟨⟨v2, s2, p2, e2⟩, hx2, h⟩ := h
 have HX2 := Aside0.mk hx2
 clear hx2
 dsimp only at h HX2
 rw [Option.bind_eq_some_iff] at h
 obtain ⟨⟨v3, s3, p3, e3⟩, hx3, h⟩ := h
 have HX3 := Aside0.mk hx3
 clear hx3
 dsimp only at h HX3
 rw [Option.bind_eq_some_iff] at h
 obtain ⟨⟨v4, s4, p4, e4⟩, hx4, h⟩ := h
 have HX4 := Aside0.mk hx4
 clear hx4
 dsimp only at h HX4
 rw [Option.bind_eq_some_iff] at h
 obtain ⟨⟨v5, s5, p5, e5⟩, hx5, h⟩ := h
 have HX5 := Aside0.mk hx5
 clear hx5
 dsimp only at h HX5
 rw [Option.bind_eq_some_iff] at h
 obtain ⟨⟨v6, s6, p6, e6⟩, hx6, h⟩ := h
 have HX6 := Aside0.mk hx6
 clear hx6
 dsimp only at h HX6
 by_cases c0 : e6 = 0
 ·subst c0
  rw [if_pos rfl, Option.bind_eq_some_iff] at h
  obtain ⟨b, hb, h⟩ := h
  have HOK := Aside0.mk hb
  clear hb
  cases b with
  | true =>
   rw [if_pos rfl] at h
   simp only [Option.some.injEq, Prod.mk.injEq] at h
   obtain ⟨rfl, rfl, rfl, rfl, rfl, rfl, rfl, rfl⟩ := h
   go_enter Try.func28, Try.ntmps28
   go_wp2_with (first | ((with_reducible refine gate_dst (N := 4) rfl ?_); refine box_event ?hg (N := 4) ?hd (cs := #[.int .i64 0, .int .i64 0, .string ⟨#[]⟩, .int .i64 0, .slice none 0 0, .int .i64 0]) (t := 24) ?hr ?_; (case hd => rfl); (case hg => rfl); (case hr => first | (go_simp; done) | (go_simp; rfl)); intro g_res hg_ w1_ hbox_ hb_; have n0_ := Aside0.mk (below_step HB.out hb_); have n1_ := Aside0.mk ((by rw [hg_]; exact HB.out.size : w.heap.size ≤ g_res)); have n2_ := Aside0.mk (hbox_); (try clear HB); (try clear GE_res); (try clear BK_res); have HB := n0_; have GE_res := n1_; have BK_res := n2_; clear n0_ n1_ n2_; clear hbox_ hb_ hg_; obtain ⟨hc_res_0, hc_res_1, hc_res_2, hc_res_3, hc_res_4, hc_res_5, hf_res_0, hf_res_1, hf_res_2, hf_res_3, hf_res_4, hf_res_5⟩ := box6 BK_res.out) | ((with_reducible refine gate_dst (N := 12) rfl ?_); refine box_event ?hg (N := 12) ?hd (cs := #[.string a0, .int .i64 a1, .int .i64 0]) (t := 106) ?hr ?_; (case hd => rfl); (case hg => rfl); (case hr => first | (go_simp; done) | (go_simp; rfl)); intro g_rd hg_ w2_ hbox_ hb_; have n0_ := Aside0.mk (blk_below BK_res.out hb_); have n1_ := Aside0.mk (below_step HB.out hb_); have n2_ := Aside0.mk ((by rw [hg_]; exact HB.out.size : w.heap.size ≤ g_rd)); have n3_ := Aside0.mk (show IsS106 w w2_ g_rd a0 a1 0 from ⟨hbox_, by rw [hg_]; exact HB.out.size⟩); (try clear BK_res); (try clear HB); (try clear GE_rd); (try clear HI); have BK_res := n0_; have HB := n1_; have GE_rd := n2_; have HI := n3_; clear n0_ n1_ n2_ n3_; (try clear hc_res_0 hc_res_1 hc_res_2 hc_res_3 hc_res_4 hc_res_5 hf_res_0 hf_res_1 hf_res_2 hf_res_3 hf_res_4 hf_res_5); clear hbox_ hb_ hg_; obtain ⟨hc_res_0, hc_res_1, hc_res_2, hc_res_3, hc_res_4, hc_res_5, hf_res_0, hf_res_1, hf_res_2, hf_res_3, hf_res_4, hf_res_5⟩ := box6 BK_res.out; obtain ⟨hc_st_0, hc_st_1, hc_st_2, hf_st_0, hf_st_1, hf_st_2⟩ := box3 HI.out.1) | (go_at_call 66; (with_reducible refine (codec_reader_number.calls k g_rd a0 a1 0 v1 s1 p1 e1 w _ HI.out HB.out HX1.out).mono ?_); rintro e_ w3_ ⟨rfl, hi_, hb_, hk_⟩; have n0_ := Aside0.mk (hk_.blk BK_res.out (Ne.symm (HI.out.ne_blk BK_res.out (by decide))) (by simp)); have n1_ := Aside0.mk (hi_); have n2_ := Aside0.mk (hb_); (try clear BK_res); (try clear HI); (try clear HB); have BK_res := n0_; have HI := n1_; have HB := n2_; clear n0_ n1_ n2_; (try clear hc_res_0 hc_res_1 hc_res_2 hc_res_3 hc_res_4 hc_res_5 hf_res_0 hf_res_1 hf_res_2 hf_res_3 hf_res_4 hf_res_5); (try clear hc_st_0 hc_st_1 hc_st_2 hf_st_0 hf_st_1 hf_st_2); (try clear hi_); (try clear hb_); (try clear hk_); obtain ⟨hc_res_0, hc_res_1, hc_res_2, hc_res_3, hc_res_4, hc_res_5, hf_res_0, hf_res_1, hf_res_2, hf_res_3, hf_res_4, hf_res_5⟩ := box6 BK_res.out; obtain ⟨hc_st_0, hc_st_1, hc_st_2, hf_st_0, hf_st_1, hf_st_2⟩ := box3 HI.out.1) | (go_at_call 66; (with_reducible refine (codec_reader_number.calls k g_rd s1 p1 e1 v2 s2 p2 e2 w _ HI.out HB.out HX2.out).mono ?_); rintro e_ w4_ ⟨rfl, hi_, hb_, hk_⟩; have n0_ := Aside0.mk (hk_.blk BK_res.out (Ne.symm (HI.out.ne_blk BK_res.out (by decide))) (by simp)); have n1_ := Aside0.mk (hi_); have n2_ := Aside0.mk (hb_); (try clear BK_res); (try clear HI); (try clear HB); have BK_res := n0_; have HI := n1_; have HB := n2_; clear n0_ n1_ n2_; (try clear hc_res_0 hc_res_1 hc_res_2 hc_res_3 hc_res_4 hc_res_5 hf_res_0 hf_res_1 hf_res_2 hf_res_3 hf_res_4 hf_res_5); (try clear hc_st_0 hc_st_1 hc_st_2 hf_st_0 hf_st_1 hf_st_2); (try clear hi_); (try clear hb_); (try clear hk_); obtain ⟨hc_res_0, hc_res_1, hc_res_2, hc_res_3, hc_res_4, hc_res_5, hf_res_0, hf_res_1, hf_res_2, hf_res_3, hf_res_4, hf_res_5⟩ := box6 BK_res.out; obtain ⟨hc_st_0, hc_st_1, hc_st_2, hf_st_0, hf_st_1, hf_st_2⟩ := box3 HI.out.1) | (go_at_call 67; (with_reducible refine (codec_reader_text.calls k g_rd s2 p2 e2 v3 s3 p3 e3 w _ HI.out HB.out HX3.out).mono ?_); rintro e_ w5_ ⟨rfl, hi_, hb_, hk_⟩; have n0_ := Aside0.mk (hk_.blk BK_res.out (Ne.symm (HI.out.ne_blk BK_res.out (by decide))) (by simp)); have n1_ := Aside0.mk (hi_); have n2_ := Aside0.mk (hb_); (try clear BK_res); (try clear HI); (try clear HB); have BK_res := n0_; have HI := n1_; have HB := n2_; clear n0_ n1_ n2_; (try clear hc_res_0 hc_res_1 hc_res_2 hc_res_3 hc_res_4 hc_res_5 hf_res_0 hf_res_1 hf_res_2 hf_res_3 hf_res_4 hf_res_5); (try clear hc_st_0 hc_st_1 hc_st_2 hf_st_0 hf_st_1 hf_st_2); (try clear hi_); (try clear hb_); (try clear hk_); obtain ⟨hc_res_0, hc_res_1, hc_res_2, hc_res_3, hc_res_4, hc_res_5, hf_res_0, hf_res_1, hf_res_2, hf_res_3, hf_res_4, hf_res_5⟩ := box6 BK_res.out; obtain ⟨hc_st_0, hc_st_1, hc_st_2, hf_st_0, hf_st_1, hf_st_2⟩ := box3 HI.out.1) | (go_at_call 66; (with_reducible refine (codec_reader_number.calls k g_rd s3 p3 e3 v4 s4 p4 e4 w _ HI.out HB.out HX4.out).mono ?_); rintro e_ w6_ ⟨rfl, hi_, hb_, hk_⟩; have n0_ := Aside0.mk (hk_.blk BK_res.out (Ne.symm (HI.out.ne_blk BK_res.out (by decide))) (by simp)); have n1_ := Aside0.mk (hi_); have n2_ := Aside0.mk (hb_); (try clear BK_res); (try clear HI); (try clear HB); have BK_res := n0_; have HI := n1_; have HB := n2_; clear n0_ n1_ n2_; (try clear hc_res_0 hc_res_1 hc_res_2 hc_res_3 hc_res_4 hc_res_5 hf_res_0 hf_res_1 hf_res_2 hf_res_3 hf_res_4 hf_res_5); (try clear hc_st_0 hc_st_1 hc_st_2 hf_st_0 hf_st_1 hf_st_2); (try clear hi_); (try clear hb_); (try clear hk_); obtain ⟨hc_res_0, hc_res_1, hc_res_2, hc_res_3, hc_res_4, hc_res_5, hf_res_0, hf_res_1, hf_res_2, hf_res_3, hf_res_4, hf_res_5⟩ := box6 BK_res.out; obtain ⟨hc_st_0, hc_st_1, hc_st_2, hf_st_0, hf_st_1, hf_st_2⟩ := box3 HI.out.1) | (go_at_call 68; (with_reducible refine (codec_reader_numbers.calls k g_rd s4 p4 e4 v5 s5 p5 e5 w _ HI.out HB.out HX5.out).mono ?_); rintro e_ w7_ ⟨v_, rfl, hr_, hi_, hb_, hk_⟩; obtain ⟨A_l, c_l, ev_⟩ := Kd.R_slice hr_; subst ev_; have n0_ := Aside0.mk (hk_.blk BK_res.out (Ne.symm (HI.out.ne_blk BK_res.out (by decide))) (by simp)); have n1_ := Aside0.mk (Kd.R_lower hr_ HB.out.size); have n2_ := Aside0.mk (hi_); have n3_ := Aside0.mk (hb_); (try clear BK_res); (try clear HR_l); (try clear HI); (try clear HB); have BK_res := n0_; have HR_l := n1_; have HI := n2_; have HB := n3_; clear n0_ n1_ n2_ n3_; (try clear hc_res_0 hc_res_1 hc_res_2 hc_res_3 hc_res_4 hc_res_5 hf_res_0 hf_res_1 hf_res_2 hf_res_3 hf_res_4 hf_res_5); (try clear hc_st_0 hc_st_1 hc_st_2 hf_st_0 hf_st_1 hf_st_2); (try clear hi_); (try clear hb_); (try clear hk_); (try clear hr_); obtain ⟨hc_res_0, hc_res_1, hc_res_2, hc_res_3, hc_res_4, hc_res_5, hf_res_0, hf_res_1, hf_res_2, hf_res_3, hf_res_4, hf_res_5⟩ := box6 BK_res.out; obtain ⟨hc_st_0, hc_st_1, hc_st_2, hf_st_0, hf_st_1, hf_st_2⟩ := box3 HI.out.1) | (go_at_call 66; (with_reducible refine (codec_reader_number.calls k g_rd s5 p5 e5 v6 s6 p6 0 w _ HI.out HB.out HX6.out).mono ?_); rintro e_ w8_ ⟨rfl, hi_, hb_, hk_⟩; have n0_ := Aside0.mk (hk_.blk BK_res.out (Ne.symm (HI.out.ne_blk BK_res.out (by decide))) (by simp)); have n1_ := Aside0.mk (Kd.R_mono (Kd.R_keep (HI.out.apart HR_l.out (by decide)) hk_ (fun _ h_ => h_.2)) (fun _ h_ => h_.1)); have n2_ := Aside0.mk (hi_); have n3_ := Aside0.mk (hb_); (try clear BK_res); (try clear HR_l); (try clear HI); (try clear HB); have BK_res := n0_; have HR_l := n1_; have HI := n2_; have HB := n3_; clear n0_ n1_ n2_ n3_; (try clear hc_res_0 hc_res_1 hc_res_2 hc_res_3 hc_res_4 hc_res_5 hf_res_0 hf_res_1 hf_res_2 hf_res_3 hf_res_4 hf_res_5); (try clear hc_st_0 hc_st_1 hc_st_2 hf_st_0 hf_st_1 hf_st_2); (try clear hi_); (try clear hb_); (try clear hk_); obtain ⟨hc_res_0, hc_res_1, hc_res_2, hc_res_3, hc_res_4, hc_res_5, hf_res_0, hf_res_1, hf_res_2, hf_res_3, hf_res_4, hf_res_5⟩ := box6 BK_res.out; obtain ⟨hc_st_0, hc_st_1, hc_st_2, hf_st_0, hf_st_1, hf_st_2⟩ := box3 HI.out.1) | ((with_reducible refine gate_dst (N := 8) rfl ?_); refine box_event ?hg (N := 8) ?hd (cs := #[.int .i64 0, .int .i64 0, .string ⟨#[]⟩, .int .i64 0, .slice none 0 0, .int .i64 0]) (t := 24) ?hr ?_; (case hd => rfl); (case hg => rfl); (case hr => first | (go_simp; done) | (go_simp; rfl)); intro g_c hg_ w9_ hbox_ hb_; have n0_ := Aside0.mk (blk_below BK_res.out hb_); have n1_ := Aside0.mk (HI.out.below hb_); have n2_ := Aside0.mk (Kd.R_below HR_l.out hb_); have n3_ := Aside0.mk (below_step HB.out hb_); have n4_ := Aside0.mk ((by rw [hg_]; exact HB.out.size : w.heap.size ≤ g_c)); have n5_ := Aside0.mk ((by rw [hg_]; exact Nat.ne_of_lt (blk_lt BK_res.out) : g_res ≠ g_c)); have n6_ := Aside0.mk (hbox_); (try clear BK_res); (try clear HI); (try clear HR_l); (try clear HB); (try clear GE_c); (try clear NB_res_c); (try clear BK_c); have BK_res := n0_; have HI := n1_; have HR_l := n2_; have HB := n3_; have GE_c := n4_; have NB_res_c := n5_; have BK_c := n6_; clear n0_ n1_ n2_ n3_ n4_ n5_ n6_; (try clear hc_res_0 hc_res_1 hc_res_2 hc_res_3 hc_res_4 hc_res_5 hf_res_0 hf_res_1 hf_res_2 hf_res_3 hf_res_4 hf_res_5); (try clear hc_st_0 hc_st_1 hc_st_2 hf_st_0 hf_st_1 hf_st_2); clear hbox_ hb_ hg_; obtain ⟨hc_res_0, hc_res_1, hc_res_2, hc_res_3, hc_res_4, hc_res_5, hf_res_0, hf_res_1, hf_res_2, hf_res_3, hf_res_4, hf_res_5⟩ := box6 BK_res.out; obtain ⟨hc_c_0, hc_c_1, hc_c_2, hc_c_3, hc_c_4, hc_c_5, hf_c_0, hf_c_1, hf_c_2, hf_c_3, hf_c_4, hf_c_5⟩ := box6 BK_c.out; obtain ⟨hc_st_0, hc_st_1, hc_st_2, hf_st_0, hf_st_1, hf_st_2⟩ := box3 HI.out.1) | ((with_reducible refine gate_store (t := 24) (p := 8) rfl ?_); refine store_event (t := 24) (p := 8) (v := ?vo_w10_) (w1 := ((((((w9_.setCell ⟨g_c, 0, none⟩ (.int .i64 v1)).setCell ⟨g_c, 1, none⟩ (.int .i64 v2)).setCell ⟨g_c, 2, none⟩ (.string v3)).setCell ⟨g_c, 3, none⟩ (.int .i64 v4)).setCell ⟨g_c, 4, none⟩ (.slice A_l v5.length c_l)).setCell ⟨g_c, 5, none⟩ (.int .i64 v6))) ?hg ?ho ?hn ?hr ?_; (case ho => rfl); (case hg => rfl); (case hn => rfl); (case hr => first | (go_simp; done) | (go_simp; rfl)); intro w10_ hw_; have n0_ : Aside0 (w10_.heap[g_c]? = some (.cells #[.int .i64 v1, .int .i64 v2, .string v3, .int .i64 v4, .slice A_l v5.length c_l, .int .i64 v6] 24 (0, 0))) := ⟨(by rw [hw_]; exact (blk_put (cs' := #[.int .i64 v1, .int .i64 v2, .string v3, .int .i64 v4, .slice A_l v5.length c_l, .int .i64 v6]) (blk_put (cs' := #[.int .i64 v1, .int .i64 v2, .string v3, .int .i64 v4, .slice A_l v5.length c_l, .int .i64 0]) (blk_put (cs' := #[.int .i64 v1, .int .i64 v2, .string v3, .int .i64 v4, .slice none 0 0, .int .i64 0]) (blk_put (cs' := #[.int .i64 v1, .int .i64 v2, .string v3, .int .i64 0, .slice none 0 0, .int .i64 0]) (blk_put (cs' := #[.int .i64 v1, .int .i64 v2, .string ⟨#[]⟩, .int .i64 0, .slice none 0 0, .int .i64 0]) (blk_put (cs' := #[.int .i64 v1, .int .i64 0, .string ⟨#[]⟩, .int .i64 0, .slice none 0 0, .int .i64 0]) (BK_c.out) 0 _ rfl) 1 _ rfl) 2 _ rfl) 3 _ rfl) 4 _ rfl) 5 _ rfl))⟩; have n1_ : Aside0 (w10_.heap[g_res]? = some (.cells #[.int .i64 0, .int .i64 0, .string ⟨#[]⟩, .int .i64 0, .slice none 0 0, .int .i64 0] 24 (0, 0))) := ⟨(by rw [hw_]; exact (blk_far (p := ⟨g_c, 5, none⟩) (blk_far (p := ⟨g_c, 4, none⟩) (blk_far (p := ⟨g_c, 3, none⟩) (blk_far (p := ⟨g_c, 2, none⟩) (blk_far (p := ⟨g_c, 1, none⟩) (blk_far (p := ⟨g_c, 0, none⟩) (BK_res.out) (NB_res_c.out) _) (NB_res_c.out) _) (NB_res_c.out) _) (NB_res_c.out) _) (NB_res_c.out) _) (NB_res_c.out) _))⟩; have n2_ : Aside0 (IsS106 w w10_ g_rd s6 p6 0) := ⟨(by rw [hw_]; exact (IsS106.far (p := ⟨g_c, 5, none⟩) (IsS106.far (p := ⟨g_c, 4, none⟩) (IsS106.far (p := ⟨g_c, 3, none⟩) (IsS106.far (p := ⟨g_c, 2, none⟩) (IsS106.far (p := ⟨g_c, 1, none⟩) (IsS106.far (p := ⟨g_c, 0, none⟩) (HI.out) (HI.out.ne_blk BK_c.out (by decide)) _) (HI.out.ne_blk BK_c.out (by decide)) _) (HI.out.ne_blk BK_c.out (by decide)) _) (HI.out.ne_blk BK_c.out (by decide)) _) (HI.out.ne_blk BK_c.out (by decide)) _) (HI.out.ne_blk BK_c.out (by decide)) _))⟩; have n3_ : Aside0 (Kd.R (Kd.int .i64) 3 w10_ w.heap.size (fun _ => True) (.slice A_l v5.length c_l) v5) := ⟨(by rw [hw_]; exact (Kd.R_mono (Kd.R_far (p := ⟨g_c, 5, none⟩) (Kd.R_far (p := ⟨g_c, 4, none⟩) (Kd.R_far (p := ⟨g_c, 3, none⟩) (Kd.R_far (p := ⟨g_c, 2, none⟩) (Kd.R_far (p := ⟨g_c, 1, none⟩) (Kd.R_far (p := ⟨g_c, 0, none⟩) (Kd.R_types HR_l.out BK_c.out (by decide)) (fun _ hk => hk.2) _) (fun _ hk => hk.2) _) (fun _ hk => hk.2) _) (fun _ hk => hk.2) _) (fun _ hk => hk.2) _) (fun _ hk => hk.2) _) (fun _ hk => hk.1)))⟩; have n4_ : Aside0 (Below w.heap.size w w10_) := ⟨(by rw [hw_]; exact (below_set (g := g_c) (j := 5) (below_set (g := g_c) (j := 4) (below_set (g := g_c) (j := 3) (below_set (g := g_c) (j := 2) (below_set (g := g_c) (j := 1) (below_set (g := g_c) (j := 0) (HB.out) GE_c.out) GE_c.out) GE_c.out) GE_c.out) GE_c.out) GE_c.out))⟩; (try clear BK_c); (try clear BK_res); (try clear HI); (try clear HR_l); (try clear HB); have BK_c := n0_; have BK_res := n1_; have HI := n2_; have HR_l := n3_; have HB := n4_; clear n0_ n1_ n2_ n3_ n4_; (try clear hc_res_0 hc_res_1 hc_res_2 hc_res_3 hc_res_4 hc_res_5 hf_res_0 hf_res_1 hf_res_2 hf_res_3 hf_res_4 hf_res_5); (try clear hc_c_0 hc_c_1 hc_c_2 hc_c_3 hc_c_4 hc_c_5 hf_c_0 hf_c_1 hf_c_2 hf_c_3 hf_c_4 hf_c_5); (try clear hc_st_0 hc_st_1 hc_st_2 hf_st_0 hf_st_1 hf_st_2); clear hw_; obtain ⟨hc_res_0, hc_res_1, hc_res_2, hc_res_3, hc_res_4, hc_res_5, hf_res_0, hf_res_1, hf_res_2, hf_res_3, hf_res_4, hf_res_5⟩ := box6 BK_res.out; obtain ⟨hc_c_0, hc_c_1, hc_c_2, hc_c_3, hc_c_4, hc_c_5, hf_c_0, hf_c_1, hf_c_2, hf_c_3, hf_c_4, hf_c_5⟩ := box6 BK_c.out; obtain ⟨hc_st_0, hc_st_1, hc_st_2, hf_st_0, hf_st_1, hf_st_2⟩ := box3 HI.out.1) | (go_at_call 69; (with_reducible refine (end_cmd_true k g_rd s6 p6 v1 v2 v3 v4 A_l c_l v5 v6 w _ HI.out HB.out (Kd.C_foot_own (HI.out.apart HR_l.out (by decide)) (fun _ h_ => h_.2)) (Kd.R_reads' HR_l.out).2.1 HOK.out).mono ?_); rintro e_ w11_ ⟨rfl, hi_, hb_, hk_⟩; have n0_ := Aside0.mk (hk_.blk BK_res.out (Ne.symm (HI.out.ne_blk BK_res.out (by decide))) (by simp)); have n1_ := Aside0.mk (hk_.blk BK_c.out (Ne.symm (HI.out.ne_blk BK_c.out (by decide))) (by simp)); have n2_ := Aside0.mk (Kd.R_mono (Kd.R_keep (HI.out.apart HR_l.out (by decide)) hk_ (fun _ h_ => h_.2)) (fun _ h_ => h_.1)); have n3_ := Aside0.mk (hi_); have n4_ := Aside0.mk (hb_); (try clear BK_res); (try clear BK_c); (try clear HR_l); (try clear HI); (try clear HB); have BK_res := n0_; have BK_c := n1_; have HR_l := n2_; have HI := n3_; have HB := n4_; clear n0_ n1_ n2_ n3_ n4_; (try clear hc_res_0 hc_res_1 hc_res_2 hc_res_3 hc_res_4 hc_res_5 hf_res_0 hf_res_1 hf_res_2 hf_res_3 hf_res_4 hf_res_5); (try clear hc_c_0 hc_c_1 hc_c_2 hc_c_3 hc_c_4 hc_c_5 hf_c_0 hf_c_1 hf_c_2 hf_c_3 hf_c_4 hf_c_5); (try clear hc_st_0 hc_st_1 hc_st_2 hf_st_0 hf_st_1 hf_st_2); (try clear hi_); (try clear hb_); (try clear hk_); obtain ⟨hc_res_0, hc_res_1, hc_res_2, hc_res_3, hc_res_4, hc_res_5, hf_res_0, hf_res_1, hf_res_2, hf_res_3, hf_res_4, hf_res_5⟩ := box6 BK_res.out; obtain ⟨hc_c_0, hc_c_1, hc_c_2, hc_c_3, hc_c_4, hc_c_5, hf_c_0, hf_c_1, hf_c_2, hf_c_3, hf_c_4, hf_c_5⟩ := box6 BK_c.out; obtain ⟨hc_st_0, hc_st_1, hc_st_2, hf_st_0, hf_st_1, hf_st_2⟩ := box3 HI.out.1) | ((with_reducible refine gate_store (t := 24) (p := 4) rfl ?_); refine store_event (t := 24) (p := 4) (v := ?vo_w12_) (w1 := ((((((w11_.setCell ⟨g_res, 0, none⟩ (.int .i64 v1)).setCell ⟨g_res, 1, none⟩ (.int .i64 v2)).setCell ⟨g_res, 2, none⟩ (.string v3)).setCell ⟨g_res, 3, none⟩ (.int .i64 v4)).setCell ⟨g_res, 4, none⟩ (.slice A_l v5.length c_l)).setCell ⟨g_res, 5, none⟩ (.int .i64 v6))) ?hg ?ho ?hn ?hr ?_; (case ho => rfl); (case hg => rfl); (case hn => rfl); (case hr => first | (go_simp; done) | (go_simp; rfl)); intro w12_ hw_; have n0_ : Aside0 (w12_.heap[g_res]? = some (.cells #[.int .i64 v1, .int .i64 v2, .string v3, .int .i64 v4, .slice A_l v5.length c_l, .int .i64 v6] 24 (0, 0))) := ⟨(by rw [hw_]; exact (blk_put (cs' := #[.int .i64 v1, .int .i64 v2, .string v3, .int .i64 v4, .slice A_l v5.length c_l, .int .i64 v6]) (blk_put (cs' := #[.int .i64 v1, .int .i64 v2, .string v3, .int .i64 v4, .slice A_l v5.length c_l, .int .i64 0]) (blk_put (cs' := #[.int .i64 v1, .int .i64 v2, .string v3, .int .i64 v4, .slice none 0 0, .int .i64 0]) (blk_put (cs' := #[.int .i64 v1, .int .i64 v2, .string v3, .int .i64 0, .slice none 0 0, .int .i64 0]) (blk_put (cs' := #[.int .i64 v1, .int .i64 v2, .string ⟨#[]⟩, .int .i64 0, .slice none 0 0, .int .i64 0]) (blk_put (cs' := #[.int .i64 v1, .int .i64 0, .string ⟨#[]⟩, .int .i64 0, .slice none 0 0, .int .i64 0]) (BK_res.out) 0 _ rfl) 1 _ rfl) 2 _ rfl) 3 _ rfl) 4 _ rfl) 5 _ rfl))⟩; have n1_ : Aside0 (w12_.heap[g_c]? = some (.cells #[.int .i64 v1, .int .i64 v2, .string v3, .int .i64 v4, .slice A_l v5.length c_l, .int .i64 v6] 24 (0, 0))) := ⟨(by rw [hw_]; exact (blk_far (p := ⟨g_res, 5, none⟩) (blk_far (p := ⟨g_res, 4, none⟩) (blk_far (p := ⟨g_res, 3, none⟩) (blk_far (p := ⟨g_res, 2, none⟩) (blk_far (p := ⟨g_res, 1, none⟩) (blk_far (p := ⟨g_res, 0, none⟩) (BK_c.out) (Ne.symm NB_res_c.out) _) (Ne.symm NB_res_c.out) _) (Ne.symm NB_res_c.out) _) (Ne.symm NB_res_c.out) _) (Ne.symm NB_res_c.out) _) (Ne.symm NB_res_c.out) _))⟩; have n2_ : Aside0 (IsS106 w w12_ g_rd s6 p6 0) := ⟨(by rw [hw_]; exact (IsS106.far (p := ⟨g_res, 5, none⟩) (IsS106.far (p := ⟨g_res, 4, none⟩) (IsS106.far (p := ⟨g_res, 3, none⟩) (IsS106.far (p := ⟨g_res, 2, none⟩) (IsS106.far (p := ⟨g_res, 1, none⟩) (IsS106.far (p := ⟨g_res, 0, none⟩) (HI.out) (HI.out.ne_blk BK_res.out (by decide)) _) (HI.out.ne_blk BK_res.out (by decide)) _) (HI.out.ne_blk BK_res.out (by decide)) _) (HI.out.ne_blk BK_res.out (by decide)) _) (HI.out.ne_blk BK_res.out (by decide)) _) (HI.out.ne_blk BK_res.out (by decide)) _))⟩; have n3_ : Aside0 (Kd.R (Kd.int .i64) 3 w12_ w.heap.size (fun _ => True) (.slice A_l v5.length c_l) v5) := ⟨(by rw [hw_]; exact (Kd.R_mono (Kd.R_far (p := ⟨g_res, 5, none⟩) (Kd.R_far (p := ⟨g_res, 4, none⟩) (Kd.R_far (p := ⟨g_res, 3, none⟩) (Kd.R_far (p := ⟨g_res, 2, none⟩) (Kd.R_far (p := ⟨g_res, 1, none⟩) (Kd.R_far (p := ⟨g_res, 0, none⟩) (Kd.R_types HR_l.out BK_res.out (by decide)) (fun _ hk => hk.2) _) (fun _ hk => hk.2) _) (fun _ hk => hk.2) _) (fun _ hk => hk.2) _) (fun _ hk => hk.2) _) (fun _ hk => hk.2) _) (fun _ hk => hk.1)))⟩; have n4_ : Aside0 (Below w.heap.size w w12_) := ⟨(by rw [hw_]; exact (below_set (g := g_res) (j := 5) (below_set (g := g_res) (j := 4) (below_set (g := g_res) (j := 3) (below_set (g := g_res) (j := 2) (below_set (g := g_res) (j := 1) (below_set (g := g_res) (j := 0) (HB.out) GE_res.out) GE_res.out) GE_res.out) GE_res.out) GE_res.out) GE_res.out))⟩; (try clear BK_res); (try clear BK_c); (try clear HI); (try clear HR_l); (try clear HB); have BK_res := n0_; have BK_c := n1_; have HI := n2_; have HR_l := n3_; have HB := n4_; clear n0_ n1_ n2_ n3_ n4_; (try clear hc_res_0 hc_res_1 hc_res_2 hc_res_3 hc_res_4 hc_res_5 hf_res_0 hf_res_1 hf_res_2 hf_res_3 hf_res_4 hf_res_5); (try clear hc_c_0 hc_c_1 hc_c_2 hc_c_3 hc_c_4 hc_c_5 hf_c_0 hf_c_1 hf_c_2 hf_c_3 hf_c_4 hf_c_5); (try clear hc_st_0 hc_st_1 hc_st_2 hf_st_0 hf_st_1 hf_st_2); clear hw_; obtain ⟨hc_res_0, hc_res_1, hc_res_2, hc_res_3, hc_res_4, hc_res_5, hf_res_0, hf_res_1, hf_res_2, hf_res_3, hf_res_4, hf_res_5⟩ := box6 BK_res.out; obtain ⟨hc_c_0, hc_c_1, hc_c_2, hc_c_3, hc_c_4, hc_c_5, hf_c_0, hf_c_1, hf_c_2, hf_c_3, hf_c_4, hf_c_5⟩ := box6 BK_c.out; obtain ⟨hc_st_0, hc_st_1, hc_st_2, hf_st_0, hf_st_1, hf_st_2⟩ := box3 HI.out.1))
   refine bodyPost_ret (v := .tuple #[.agg #[.int .i64 v1, .int .i64 v2, .string v3, .int .i64 v4, .slice A_l v5.length c_l, .int .i64 v6], .int .i64 p6, .int .i64 0]) ?_ rfl ?_
   ·refine results_list (rs := [.cell 4 24, .tmp 5, .tmp 6]) (vs := [.agg #[.int .i64 v1, .int .i64 v2, .string v3, .int .i64 v4, .slice A_l v5.length c_l, .int .i64 v6], .int .i64 p6, .int .i64 0]) rfl (by simp) ?_
    exact .cell g_res 24 #[.int .i64 v1, .int .i64 v2, .string v3, .int .i64 v4, .slice A_l v5.length c_l, .int .i64 v6] (0, 0) _ rfl BK_res.out Try.underlying24 rfl (by kernel_rfl) (.tmp (.tmp .nil))
   exact ⟨_, rfl, HR_l.out, HB.out⟩
  | false =>
   rw [if_neg (by decide)] at h
   simp only [Option.some.injEq, Prod.mk.injEq] at h
   obtain ⟨rfl, rfl, rfl, rfl, rfl, rfl, rfl, rfl⟩ := h
   go_enter Try.func28, Try.ntmps28
   go_wp2_with (first | ((with_reducible refine gate_dst (N := 4) rfl ?_); refine box_event ?hg (N := 4) ?hd (cs := #[.int .i64 0, .int .i64 0, .string ⟨#[]⟩, .int .i64 0, .slice none 0 0, .int .i64 0]) (t := 24) ?hr ?_; (case hd => rfl); (case hg => rfl); (case hr => first | (go_simp; done) | (go_simp; rfl)); intro g_res hg_ w1_ hbox_ hb_; have n0_ := Aside0.mk (below_step HB.out hb_); have n1_ := Aside0.mk ((by rw [hg_]; exact HB.out.size : w.heap.size ≤ g_res)); have n2_ := Aside0.mk (hbox_); (try clear HB); (try clear GE_res); (try clear BK_res); have HB := n0_; have GE_res := n1_; have BK_res := n2_; clear n0_ n1_ n2_; clear hbox_ hb_ hg_; obtain ⟨hc_res_0, hc_res_1, hc_res_2, hc_res_3, hc_res_4, hc_res_5, hf_res_0, hf_res_1, hf_res_2, hf_res_3, hf_res_4, hf_res_5⟩ := box6 BK_res.out) | ((with_reducible refine gate_dst (N := 12) rfl ?_); refine box_event ?hg (N := 12) ?hd (cs := #[.string a0, .int .i64 a1, .int .i64 0]) (t := 106) ?hr ?_; (case hd => rfl); (case hg => rfl); (case hr => first | (go_simp; done) | (go_simp; rfl)); intro g_rd hg_ w2_ hbox_ hb_; have n0_ := Aside0.mk (blk_below BK_res.out hb_); have n1_ := Aside0.mk (below_step HB.out hb_); have n2_ := Aside0.mk ((by rw [hg_]; exact HB.out.size : w.heap.size ≤ g_rd)); have n3_ := Aside0.mk (show IsS106 w w2_ g_rd a0 a1 0 from ⟨hbox_, by rw [hg_]; exact HB.out.size⟩); (try clear BK_res); (try clear HB); (try clear GE_rd); (try clear HI); have BK_res := n0_; have HB := n1_; have GE_rd := n2_; have HI := n3_; clear n0_ n1_ n2_ n3_; (try clear hc_res_0 hc_res_1 hc_res_2 hc_res_3 hc_res_4 hc_res_5 hf_res_0 hf_res_1 hf_res_2 hf_res_3 hf_res_4 hf_res_5); clear hbox_ hb_ hg_; obtain ⟨hc_res_0, hc_res_1, hc_res_2, hc_res_3, hc_res_4, hc_res_5, hf_res_0, hf_res_1, hf_res_2, hf_res_3, hf_res_4, hf_res_5⟩ := box6 BK_res.out; obtain ⟨hc_st_0, hc_st_1, hc_st_2, hf_st_0, hf_st_1, hf_st_2⟩ := box3 HI.out.1) | (go_at_call 66; (with_reducible refine (codec_reader_number.calls k g_rd a0 a1 0 v1 s1 p1 e1 w _ HI.out HB.out HX1.out).mono ?_); rintro e_ w3_ ⟨rfl, hi_, hb_, hk_⟩; have n0_ := Aside0.mk (hk_.blk BK_res.out (Ne.symm (HI.out.ne_blk BK_res.out (by decide))) (by simp)); have n1_ := Aside0.mk (hi_); have n2_ := Aside0.mk (hb_); (try clear BK_res); (try clear HI); (try clear HB); have BK_res := n0_; have HI := n1_; have HB := n2_; clear n0_ n1_ n2_; (try clear hc_res_0 hc_res_1 hc_res_2 hc_res_3 hc_res_4 hc_res_5 hf_res_0 hf_res_1 hf_res_2 hf_res_3 hf_res_4 hf_res_5); (try clear hc_st_0 hc_st_1 hc_st_2 hf_st_0 hf_st_1 hf_st_2); (try clear hi_); (try clear hb_); (try clear hk_); obtain ⟨hc_res_0, hc_res_1, hc_res_2, hc_res_3, hc_res_4, hc_res_5, hf_res_0, hf_res_1, hf_res_2, hf_res_3, hf_res_4, hf_res_5⟩ := box6 BK_res.out; obtain ⟨hc_st_0, hc_st_1, hc_st_2, hf_st_0, hf_st_1, hf_st_2⟩ := box3 HI.out.1) | (go_at_call 66; (with_reducible refine (codec_reader_number.calls k g_rd s1 p1 e1 v2 s2 p2 e2 w _ HI.out HB.out HX2.out).mono ?_); rintro e_ w4_ ⟨rfl, hi_, hb_, hk_⟩; have n0_ := Aside0.mk (hk_.blk BK_res.out (Ne.symm (HI.out.ne_blk BK_res.out (by decide))) (by simp)); have n1_ := Aside0.mk (hi_); have n2_ := Aside0.mk (hb_); (try clear BK_res); (try clear HI); (try clear HB); have BK_res := n0_; have HI := n1_; have HB := n2_; clear n0_ n1_ n2_; (try clear hc_res_0 hc_res_1 hc_res_2 hc_res_3 hc_res_4 hc_res_5 hf_res_0 hf_res_1 hf_res_2 hf_res_3 hf_res_4 hf_res_5); (try clear hc_st_0 hc_st_1 hc_st_2 hf_st_0 hf_st_1 hf_st_2); (try clear hi_); (try clear hb_); (try clear hk_); obtain ⟨hc_res_0, hc_res_1, hc_res_2, hc_res_3, hc_res_4, hc_res_5, hf_res_0, hf_res_1, hf_res_2, hf_res_3, hf_res_4, hf_res_5⟩ := box6 BK_res.out; obtain ⟨hc_st_0, hc_st_1, hc_st_2, hf_st_0, hf_st_1, hf_st_2⟩ := box3 HI.out.1) | (go_at_call 67; (with_reducible refine (codec_reader_text.calls k g_rd s2 p2 e2 v3 s3 p3 e3 w _ HI.out HB.out HX3.out).mono ?_); rintro e_ w5_ ⟨rfl, hi_, hb_, hk_⟩; have n0_ := Aside0.mk (hk_.blk BK_res.out (Ne.symm (HI.out.ne_blk BK_res.out (by decide))) (by simp)); have n1_ := Aside0.mk (hi_); have n2_ := Aside0.mk (hb_); (try clear BK_res); (try clear HI); (try clear HB); have BK_res := n0_; have HI := n1_; have HB := n2_; clear n0_ n1_ n2_; (try clear hc_res_0 hc_res_1 hc_res_2 hc_res_3 hc_res_4 hc_res_5 hf_res_0 hf_res_1 hf_res_2 hf_res_3 hf_res_4 hf_res_5); (try clear hc_st_0 hc_st_1 hc_st_2 hf_st_0 hf_st_1 hf_st_2); (try clear hi_); (try clear hb_); (try clear hk_); obtain ⟨hc_res_0, hc_res_1, hc_res_2, hc_res_3, hc_res_4, hc_res_5, hf_res_0, hf_res_1, hf_res_2, hf_res_3, hf_res_4, hf_res_5⟩ := box6 BK_res.out; obtain ⟨hc_st_0, hc_st_1, hc_st_2, hf_st_0, hf_st_1, hf_st_2⟩ := box3 HI.out.1) | (go_at_call 66; (with_reducible refine (codec_reader_number.calls k g_rd s3 p3 e3 v4 s4 p4 e4 w _ HI.out HB.out HX4.out).mono ?_); rintro e_ w6_ ⟨rfl, hi_, hb_, hk_⟩; have n0_ := Aside0.mk (hk_.blk BK_res.out (Ne.symm (HI.out.ne_blk BK_res.out (by decide))) (by simp)); have n1_ := Aside0.mk (hi_); have n2_ := Aside0.mk (hb_); (try clear BK_res); (try clear HI); (try clear HB); have BK_res := n0_; have HI := n1_; have HB := n2_; clear n0_ n1_ n2_; (try clear hc_res_0 hc_res_1 hc_res_2 hc_res_3 hc_res_4 hc_res_5 hf_res_0 hf_res_1 hf_res_2 hf_res_3 hf_res_4 hf_res_5); (try clear hc_st_0 hc_st_1 hc_st_2 hf_st_0 hf_st_1 hf_st_2); (try clear hi_); (try clear hb_); (try clear hk_); obtain ⟨hc_res_0, hc_res_1, hc_res_2, hc_res_3, hc_res_4, hc_res_5, hf_res_0, hf_res_1, hf_res_2, hf_res_3, hf_res_4, hf_res_5⟩ := box6 BK_res.out; obtain ⟨hc_st_0, hc_st_1, hc_st_2, hf_st_0, hf_st_1, hf_st_2⟩ := box3 HI.out.1) | (go_at_call 68; (with_reducible refine (codec_reader_numbers.calls k g_rd s4 p4 e4 v5 s5 p5 e5 w _ HI.out HB.out HX5.out).mono ?_); rintro e_ w7_ ⟨v_, rfl, hr_, hi_, hb_, hk_⟩; obtain ⟨A_l, c_l, ev_⟩ := Kd.R_slice hr_; subst ev_; have n0_ := Aside0.mk (hk_.blk BK_res.out (Ne.symm (HI.out.ne_blk BK_res.out (by decide))) (by simp)); have n1_ := Aside0.mk (Kd.R_lower hr_ HB.out.size); have n2_ := Aside0.mk (hi_); have n3_ := Aside0.mk (hb_); (try clear BK_res); (try clear HR_l); (try clear HI); (try clear HB); have BK_res := n0_; have HR_l := n1_; have HI := n2_; have HB := n3_; clear n0_ n1_ n2_ n3_; (try clear hc_res_0 hc_res_1 hc_res_2 hc_res_3 hc_res_4 hc_res_5 hf_res_0 hf_res_1 hf_res_2 hf_res_3 hf_res_4 hf_res_5); (try clear hc_st_0 hc_st_1 hc_st_2 hf_st_0 hf_st_1 hf_st_2); (try clear hi_); (try clear hb_); (try clear hk_); (try clear hr_); obtain ⟨hc_res_0, hc_res_1, hc_res_2, hc_res_3, hc_res_4, hc_res_5, hf_res_0, hf_res_1, hf_res_2, hf_res_3, hf_res_4, hf_res_5⟩ := box6 BK_res.out; obtain ⟨hc_st_0, hc_st_1, hc_st_2, hf_st_0, hf_st_1, hf_st_2⟩ := box3 HI.out.1) | (go_at_call 66; (with_reducible refine (codec_reader_number.calls k g_rd s5 p5 e5 v6 s6 p6 0 w _ HI.out HB.out HX6.out).mono ?_); rintro e_ w8_ ⟨rfl, hi_, hb_, hk_⟩; have n0_ := Aside0.mk (hk_.blk BK_res.out (Ne.symm (HI.out.ne_blk BK_res.out (by decide))) (by simp)); have n1_ := Aside0.mk (Kd.R_mono (Kd.R_keep (HI.out.apart HR_l.out (by decide)) hk_ (fun _ h_ => h_.2)) (fun _ h_ => h_.1)); have n2_ := Aside0.mk (hi_); have n3_ := Aside0.mk (hb_); (try clear BK_res); (try clear HR_l); (try clear HI); (try clear HB); have BK_res := n0_; have HR_l := n1_; have HI := n2_; have HB := n3_; clear n0_ n1_ n2_ n3_; (try clear hc_res_0 hc_res_1 hc_res_2 hc_res_3 hc_res_4 hc_res_5 hf_res_0 hf_res_1 hf_res_2 hf_res_3 hf_res_4 hf_res_5); (try clear hc_st_0 hc_st_1 hc_st_2 hf_st_0 hf_st_1 hf_st_2); (try clear hi_); (try clear hb_); (try clear hk_); obtain ⟨hc_res_0, hc_res_1, hc_res_2, hc_res_3, hc_res_4, hc_res_5, hf_res_0, hf_res_1, hf_res_2, hf_res_3, hf_res_4, hf_res_5⟩ := box6 BK_res.out; obtain ⟨hc_st_0, hc_st_1, hc_st_2, hf_st_0, hf_st_1, hf_st_2⟩ := box3 HI.out.1) | ((with_reducible refine gate_dst (N := 8) rfl ?_); refine box_event ?hg (N := 8) ?hd (cs := #[.int .i64 0, .int .i64 0, .string ⟨#[]⟩, .int .i64 0, .slice none 0 0, .int .i64 0]) (t := 24) ?hr ?_; (case hd => rfl); (case hg => rfl); (case hr => first | (go_simp; done) | (go_simp; rfl)); intro g_c hg_ w9_ hbox_ hb_; have n0_ := Aside0.mk (blk_below BK_res.out hb_); have n1_ := Aside0.mk (HI.out.below hb_); have n2_ := Aside0.mk (Kd.R_below HR_l.out hb_); have n3_ := Aside0.mk (below_step HB.out hb_); have n4_ := Aside0.mk ((by rw [hg_]; exact HB.out.size : w.heap.size ≤ g_c)); have n5_ := Aside0.mk ((by rw [hg_]; exact Nat.ne_of_lt (blk_lt BK_res.out) : g_res ≠ g_c)); have n6_ := Aside0.mk (hbox_); (try clear BK_res); (try clear HI); (try clear HR_l); (try clear HB); (try clear GE_c); (try clear NB_res_c); (try clear BK_c); have BK_res := n0_; have HI := n1_; have HR_l := n2_; have HB := n3_; have GE_c := n4_; have NB_res_c := n5_; have BK_c := n6_; clear n0_ n1_ n2_ n3_ n4_ n5_ n6_; (try clear hc_res_0 hc_res_1 hc_res_2 hc_res_3 hc_res_4 hc_res_5 hf_res_0 hf_res_1 hf_res_2 hf_res_3 hf_res_4 hf_res_5); (try clear hc_st_0 hc_st_1 hc_st_2 hf_st_0 hf_st_1 hf_st_2); clear hbox_ hb_ hg_; obtain ⟨hc_res_0, hc_res_1, hc_res_2, hc_res_3, hc_res_4, hc_res_5, hf_res_0, hf_res_1, hf_res_2, hf_res_3, hf_res_4, hf_res_5⟩ := box6 BK_res.out; obtain ⟨hc_c_0, hc_c_1, hc_c_2, hc_c_3, hc_c_4, hc_c_5, hf_c_0, hf_c_1, hf_c_2, hf_c_3, hf_c_4, hf_c_5⟩ := box6 BK_c.out; obtain ⟨hc_st_0, hc_st_1, hc_st_2, hf_st_0, hf_st_1, hf_st_2⟩ := box3 HI.out.1) | ((with_reducible refine gate_store (t := 24) (p := 8) rfl ?_); refine store_event (t := 24) (p := 8) (v := ?vo_w10_) (w1 := ((((((w9_.setCell ⟨g_c, 0, none⟩ (.int .i64 v1)).setCell ⟨g_c, 1, none⟩ (.int .i64 v2)).setCell ⟨g_c, 2, none⟩ (.string v3)).setCell ⟨g_c, 3, none⟩ (.int .i64 v4)).setCell ⟨g_c, 4, none⟩ (.slice A_l v5.length c_l)).setCell ⟨g_c, 5, none⟩ (.int .i64 v6))) ?hg ?ho ?hn ?hr ?_; (case ho => rfl); (case hg => rfl); (case hn => rfl); (case hr => first | (go_simp; done) | (go_simp; rfl)); intro w10_ hw_; have n0_ : Aside0 (w10_.heap[g_c]? = some (.cells #[.int .i64 v1, .int .i64 v2, .string v3, .int .i64 v4, .slice A_l v5.length c_l, .int .i64 v6] 24 (0, 0))) := ⟨(by rw [hw_]; exact (blk_put (cs' := #[.int .i64 v1, .int .i64 v2, .string v3, .int .i64 v4, .slice A_l v5.length c_l, .int .i64 v6]) (blk_put (cs' := #[.int .i64 v1, .int .i64 v2, .string v3, .int .i64 v4, .slice A_l v5.length c_l, .int .i64 0]) (blk_put (cs' := #[.int .i64 v1, .int .i64 v2, .string v3, .int .i64 v4, .slice none 0 0, .int .i64 0]) (blk_put (cs' := #[.int .i64 v1, .int .i64 v2, .string v3, .int .i64 0, .slice none 0 0, .int .i64 0]) (blk_put (cs' := #[.int .i64 v1, .int .i64 v2, .string ⟨#[]⟩, .int .i64 0, .slice none 0 0, .int .i64 0]) (blk_put (cs' := #[.int .i64 v1, .int .i64 0, .string ⟨#[]⟩, .int .i64 0, .slice none 0 0, .int .i64 0]) (BK_c.out) 0 _ rfl) 1 _ rfl) 2 _ rfl) 3 _ rfl) 4 _ rfl) 5 _ rfl))⟩; have n1_ : Aside0 (w10_.heap[g_res]? = some (.cells #[.int .i64 0, .int .i64 0, .string ⟨#[]⟩, .int .i64 0, .slice none 0 0, .int .i64 0] 24 (0, 0))) := ⟨(by rw [hw_]; exact (blk_far (p := ⟨g_c, 5, none⟩) (blk_far (p := ⟨g_c, 4, none⟩) (blk_far (p := ⟨g_c, 3, none⟩) (blk_far (p := ⟨g_c, 2, none⟩) (blk_far (p := ⟨g_c, 1, none⟩) (blk_far (p := ⟨g_c, 0, none⟩) (BK_res.out) (NB_res_c.out) _) (NB_res_c.out) _) (NB_res_c.out) _) (NB_res_c.out) _) (NB_res_c.out) _) (NB_res_c.out) _))⟩; have n2_ : Aside0 (IsS106 w w10_ g_rd s6 p6 0) := ⟨(by rw [hw_]; exact (IsS106.far (p := ⟨g_c, 5, none⟩) (IsS106.far (p := ⟨g_c, 4, none⟩) (IsS106.far (p := ⟨g_c, 3, none⟩) (IsS106.far (p := ⟨g_c, 2, none⟩) (IsS106.far (p := ⟨g_c, 1, none⟩) (IsS106.far (p := ⟨g_c, 0, none⟩) (HI.out) (HI.out.ne_blk BK_c.out (by decide)) _) (HI.out.ne_blk BK_c.out (by decide)) _) (HI.out.ne_blk BK_c.out (by decide)) _) (HI.out.ne_blk BK_c.out (by decide)) _) (HI.out.ne_blk BK_c.out (by decide)) _) (HI.out.ne_blk BK_c.out (by decide)) _))⟩; have n3_ : Aside0 (Kd.R (Kd.int .i64) 3 w10_ w.heap.size (fun _ => True) (.slice A_l v5.length c_l) v5) := ⟨(by rw [hw_]; exact (Kd.R_mono (Kd.R_far (p := ⟨g_c, 5, none⟩) (Kd.R_far (p := ⟨g_c, 4, none⟩) (Kd.R_far (p := ⟨g_c, 3, none⟩) (Kd.R_far (p := ⟨g_c, 2, none⟩) (Kd.R_far (p := ⟨g_c, 1, none⟩) (Kd.R_far (p := ⟨g_c, 0, none⟩) (Kd.R_types HR_l.out BK_c.out (by decide)) (fun _ hk => hk.2) _) (fun _ hk => hk.2) _) (fun _ hk => hk.2) _) (fun _ hk => hk.2) _) (fun _ hk => hk.2) _) (fun _ hk => hk.2) _) (fun _ hk => hk.1)))⟩; have n4_ : Aside0 (Below w.heap.size w w10_) := ⟨(by rw [hw_]; exact (below_set (g := g_c) (j := 5) (below_set (g := g_c) (j := 4) (below_set (g := g_c) (j := 3) (below_set (g := g_c) (j := 2) (below_set (g := g_c) (j := 1) (below_set (g := g_c) (j := 0) (HB.out) GE_c.out) GE_c.out) GE_c.out) GE_c.out) GE_c.out) GE_c.out))⟩; (try clear BK_c); (try clear BK_res); (try clear HI); (try clear HR_l); (try clear HB); have BK_c := n0_; have BK_res := n1_; have HI := n2_; have HR_l := n3_; have HB := n4_; clear n0_ n1_ n2_ n3_ n4_; (try clear hc_res_0 hc_res_1 hc_res_2 hc_res_3 hc_res_4 hc_res_5 hf_res_0 hf_res_1 hf_res_2 hf_res_3 hf_res_4 hf_res_5); (try clear hc_c_0 hc_c_1 hc_c_2 hc_c_3 hc_c_4 hc_c_5 hf_c_0 hf_c_1 hf_c_2 hf_c_3 hf_c_4 hf_c_5); (try clear hc_st_0 hc_st_1 hc_st_2 hf_st_0 hf_st_1 hf_st_2); clear hw_; obtain ⟨hc_res_0, hc_res_1, hc_res_2, hc_res_3, hc_res_4, hc_res_5, hf_res_0, hf_res_1, hf_res_2, hf_res_3, hf_res_4, hf_res_5⟩ := box6 BK_res.out; obtain ⟨hc_c_0, hc_c_1, hc_c_2, hc_c_3, hc_c_4, hc_c_5, hf_c_0, hf_c_1, hf_c_2, hf_c_3, hf_c_4, hf_c_5⟩ := box6 BK_c.out; obtain ⟨hc_st_0, hc_st_1, hc_st_2, hf_st_0, hf_st_1, hf_st_2⟩ := box3 HI.out.1) | (go_at_call 69; (with_reducible refine (end_cmd_false k g_rd s6 p6 v1 v2 v3 v4 A_l c_l v5 v6 w _ HI.out HB.out (Kd.C_foot_own (HI.out.apart HR_l.out (by decide)) (fun _ h_ => h_.2)) (Kd.R_reads' HR_l.out).2.1 HOK.out).mono ?_); rintro e_ w11_ ⟨rfl, hi_, hb_, hk_⟩; have n0_ := Aside0.mk (hk_.blk BK_res.out (Ne.symm (HI.out.ne_blk BK_res.out (by decide))) (by simp)); have n1_ := Aside0.mk (hk_.blk BK_c.out (Ne.symm (HI.out.ne_blk BK_c.out (by decide))) (by simp)); have n2_ := Aside0.mk (Kd.R_mono (Kd.R_keep (HI.out.apart HR_l.out (by decide)) hk_ (fun _ h_ => h_.2)) (fun _ h_ => h_.1)); have n3_ := Aside0.mk (hi_); have n4_ := Aside0.mk (hb_); (try clear BK_res); (try clear BK_c); (try clear HR_l); (try clear HI); (try clear HB); have BK_res := n0_; have BK_c := n1_; have HR_l := n2_; have HI := n3_; have HB := n4_; clear n0_ n1_ n2_ n3_ n4_; (try clear hc_res_0 hc_res_1 hc_res_2 hc_res_3 hc_res_4 hc_res_5 hf_res_0 hf_res_1 hf_res_2 hf_res_3 hf_res_4 hf_res_5); (try clear hc_c_0 hc_c_1 hc_c_2 hc_c_3 hc_c_4 hc_c_5 hf_c_0 hf_c_1 hf_c_2 hf_c_3 hf_c_4 hf_c_5); (try clear hc_st_0 hc_st_1 hc_st_2 hf_st_0 hf_st_1 hf_st_2); (try clear hi_); (try clear hb_); (try clear hk_); obtain ⟨hc_res_0, hc_res_1, hc_res_2, hc_res_3, hc_res_4, hc_res_5, hf_res_0, hf_res_1, hf_res_2, hf_res_3, hf_res_4, hf_res_5⟩ := box6 BK_res.out; obtain ⟨hc_c_0, hc_c_1, hc_c_2, hc_c_3, hc_c_4, hc_c_5, hf_c_0, hf_c_1, hf_c_2, hf_c_3, hf_c_4, hf_c_5⟩ := box6 BK_c.out; obtain ⟨hc_st_0, hc_st_1, hc_st_2, hf_st_0, hf_st_1, hf_st_2⟩ := box3 HI.out.1) | ((with_reducible refine gate_store (t := 24) (p := 4) rfl ?_); refine store_event (t := 24) (p := 4) (v := ?vo_w12_) (w1 := ((((((w11_.setCell ⟨g_res, 0, none⟩ (.int .i64 0)).setCell ⟨g_res, 1, none⟩ (.int .i64 0)).setCell ⟨g_res, 2, none⟩ (.string ⟨#[]⟩)).setCell ⟨g_res, 3, none⟩ (.int .i64 0)).setCell ⟨g_res, 4, none⟩ (.slice none 0 0)).setCell ⟨g_res, 5, none⟩ (.int .i64 0))) ?hg ?ho ?hn ?hr ?_; (case ho => rfl); (case hg => rfl); (case hn => rfl); (case hr => first | (go_simp; done) | (go_simp; rfl)); intro w12_ hw_; have n0_ : Aside0 (w12_.heap[g_res]? = some (.cells #[.int .i64 0, .int .i64 0, .string ⟨#[]⟩, .int .i64 0, .slice none 0 0, .int .i64 0] 24 (0, 0))) := ⟨(by rw [hw_]; exact (blk_put (cs' := #[.int .i64 0, .int .i64 0, .string ⟨#[]⟩, .int .i64 0, .slice none 0 0, .int .i64 0]) (blk_put (cs' := #[.int .i64 0, .int .i64 0, .string ⟨#[]⟩, .int .i64 0, .slice none 0 0, .int .i64 0]) (blk_put (cs' := #[.int .i64 0, .int .i64 0, .string ⟨#[]⟩, .int .i64 0, .slice none 0 0, .int .i64 0]) (blk_put (cs' := #[.int .i64 0, .int .i64 0, .string ⟨#[]⟩, .int .i64 0, .slice none 0 0, .int .i64 0]) (blk_put (cs' := #[.int .i64 0, .int .i64 0, .string ⟨#[]⟩, .int .i64 0, .slice none 0 0, .int .i64 0]) (blk_put (cs' := #[.int .i64 0, .int .i64 0, .string ⟨#[]⟩, .int .i64 0, .slice none 0 0, .int .i64 0]) (BK_res.out) 0 _ rfl) 1 _ rfl) 2 _ rfl) 3 _ rfl) 4 _ rfl) 5 _ rfl))⟩; have n1_ : Aside0 (w12_.heap[g_c]? = some (.cells #[.int .i64 v1, .int .i64 v2, .string v3, .int .i64 v4, .slice A_l v5.length c_l, .int .i64 v6] 24 (0, 0))) := ⟨(by rw [hw_]; exact (blk_far (p := ⟨g_res, 5, none⟩) (blk_far (p := ⟨g_res, 4, none⟩) (blk_far (p := ⟨g_res, 3, none⟩) (blk_far (p := ⟨g_res, 2, none⟩) (blk_far (p := ⟨g_res, 1, none⟩) (blk_far (p := ⟨g_res, 0, none⟩) (BK_c.out) (Ne.symm NB_res_c.out) _) (Ne.symm NB_res_c.out) _) (Ne.symm NB_res_c.out) _) (Ne.symm NB_res_c.out) _) (Ne.symm NB_res_c.out) _) (Ne.symm NB_res_c.out) _))⟩; have n2_ : Aside0 (IsS106 w w12_ g_rd s6 p6 6) := ⟨(by rw [hw_]; exact (IsS106.far (p := ⟨g_res, 5, none⟩) (IsS106.far (p := ⟨g_res, 4, none⟩) (IsS106.far (p := ⟨g_res, 3, none⟩) (IsS106.far (p := ⟨g_res, 2, none⟩) (IsS106.far (p := ⟨g_res, 1, none⟩) (IsS106.far (p := ⟨g_res, 0, none⟩) (HI.out) (HI.out.ne_blk BK_res.out (by decide)) _) (HI.out.ne_blk BK_res.out (by decide)) _) (HI.out.ne_blk BK_res.out (by decide)) _) (HI.out.ne_blk BK_res.out (by decide)) _) (HI.out.ne_blk BK_res.out (by decide)) _) (HI.out.ne_blk BK_res.out (by decide)) _))⟩; have n3_ : Aside0 (Kd.R (Kd.int .i64) 3 w12_ w.heap.size (fun _ => True) (.slice A_l v5.length c_l) v5) := ⟨(by rw [hw_]; exact (Kd.R_mono (Kd.R_far (p := ⟨g_res, 5, none⟩) (Kd.R_far (p := ⟨g_res, 4, none⟩) (Kd.R_far (p := ⟨g_res, 3, none⟩) (Kd.R_far (p := ⟨g_res, 2, none⟩) (Kd.R_far (p := ⟨g_res, 1, none⟩) (Kd.R_far (p := ⟨g_res, 0, none⟩) (Kd.R_types HR_l.out BK_res.out (by decide)) (fun _ hk => hk.2) _) (fun _ hk => hk.2) _) (fun _ hk => hk.2) _) (fun _ hk => hk.2) _) (fun _ hk => hk.2) _) (fun _ hk => hk.2) _) (fun _ hk => hk.1)))⟩; have n4_ : Aside0 (Below w.heap.size w w12_) := ⟨(by rw [hw_]; exact (below_set (g := g_res) (j := 5) (below_set (g := g_res) (j := 4) (below_set (g := g_res) (j := 3) (below_set (g := g_res) (j := 2) (below_set (g := g_res) (j := 1) (below_set (g := g_res) (j := 0) (HB.out) GE_res.out) GE_res.out) GE_res.out) GE_res.out) GE_res.out) GE_res.out))⟩; (try clear BK_res); (try clear BK_c); (try clear HI); (try clear HR_l); (try clear HB); have BK_res := n0_; have BK_c := n1_; have HI := n2_; have HR_l := n3_; have HB := n4_; clear n0_ n1_ n2_ n3_ n4_; (try clear hc_res_0 hc_res_1 hc_res_2 hc_res_3 hc_res_4 hc_res_5 hf_res_0 hf_res_1 hf_res_2 hf_res_3 hf_res_4 hf_res_5); (try clear hc_c_0 hc_c_1 hc_c_2 hc_c_3 hc_c_4 hc_c_5 hf_c_0 hf_c_1 hf_c_2 hf_c_3 hf_c_4 hf_c_5); (try clear hc_st_0 hc_st_1 hc_st_2 hf_st_0 hf_st_1 hf_st_2); clear hw_; obtain ⟨hc_res_0, hc_res_1, hc_res_2, hc_res_3, hc_res_4, hc_res_5, hf_res_0, hf_res_1, hf_res_2, hf_res_3, hf_res_4, hf_res_5⟩ := box6 BK_res.out; obtain ⟨hc_c_0, hc_c_1, hc_c_2, hc_c_3, hc_c_4, hc_c_5, hf_c_0, hf_c_1, hf_c_2, hf_c_3, hf_c_4, hf_c_5⟩ := box6 BK_c.out; obtain ⟨hc_st_0, hc_st_1, hc_st_2, hf_st_0, hf_st_1, hf_st_2⟩ := box3 HI.out.1))
   refine bodyPost_ret (v := .tuple #[.agg #[.int .i64 0, .int .i64 0, .string ⟨#[]⟩, .int .i64 0, .slice none 0 0, .int .i64 0], .int .i64 0, .int .i64 6]) ?_ rfl ?_
   ·refine results_list (rs := [.cell 4 24, .tmp 5, .tmp 6]) (vs := [.agg #[.int .i64 0, .int .i64 0, .string ⟨#[]⟩, .int .i64 0, .slice none 0 0, .int .i64 0], .int .i64 0, .int .i64 6]) rfl (by simp) ?_
    exact .cell g_res 24 #[.int .i64 0, .int .i64 0, .string ⟨#[]⟩, .int .i64 0, .slice none 0 0, .int .i64 0] (0, 0) _ rfl BK_res.out Try.underlying24 rfl (by kernel_rfl) (.tmp (.tmp .nil))
   exact ⟨_, rfl, Kd.R_nil _ _ _ _ _, HB.out⟩
 ·rw [if_neg c0] at h
  simp only [Option.some.injEq, Prod.mk.injEq] at h
  obtain ⟨rfl, rfl, rfl, rfl, rfl, rfl, rfl, rfl⟩ := h
  have C0 := Aside0.mk c0
  clear c0
  go_enter Try.func28, Try.ntmps28
  go_wp2_with (first | ((with_reducible refine gate_dst (N := 4) rfl ?_); refine box_event ?hg (N := 4) ?hd (cs := #[.int .i64 0, .int .i64 0, .string ⟨#[]⟩, .int .i64 0, .slice none 0 0, .int .i64 0]) (t := 24) ?hr ?_; (case hd => rfl); (case hg => rfl); (case hr => first | (go_simp; done) | (go_simp; rfl)); intro g_res hg_ w1_ hbox_ hb_; have n0_ := Aside0.mk (below_step HB.out hb_); have n1_ := Aside0.mk ((by rw [hg_]; exact HB.out.size : w.heap.size ≤ g_res)); have n2_ := Aside0.mk (hbox_); (try clear HB); (try clear GE_res); (try clear BK_res); have HB := n0_; have GE_res := n1_; have BK_res := n2_; clear n0_ n1_ n2_; clear hbox_ hb_ hg_; obtain ⟨hc_res_0, hc_res_1, hc_res_2, hc_res_3, hc_res_4, hc_res_5, hf_res_0, hf_res_1, hf_res_2, hf_res_3, hf_res_4, hf_res_5⟩ := box6 BK_res.out) | ((with_reducible refine gate_dst (N := 12) rfl ?_); refine box_event ?hg (N := 12) ?hd (cs := #[.string a0, .int .i64 a1, .int .i64 0]) (t := 106) ?hr ?_; (case hd => rfl); (case hg => rfl); (case hr => first | (go_simp; done) | (go_simp; rfl)); intro g_rd hg_ w2_ hbox_ hb_; have n0_ := Aside0.mk (blk_below BK_res.out hb_); have n1_ := Aside0.mk (below_step HB.out hb_); have n2_ := Aside0.mk ((by rw [hg_]; exact HB.out.size : w.heap.size ≤ g_rd)); have n3_ := Aside0.mk (show IsS106 w w2_ g_rd a0 a1 0 from ⟨hbox_, by rw [hg_]; exact HB.out.size⟩); (try clear BK_res); (try clear HB); (try clear GE_rd); (try clear HI); have BK_res := n0_; have HB := n1_; have GE_rd := n2_; have HI := n3_; clear n0_ n1_ n2_ n3_; (try clear hc_res_0 hc_res_1 hc_res_2 hc_res_3 hc_res_4 hc_res_5 hf_res_0 hf_res_1 hf_res_2 hf_res_3 hf_res_4 hf_res_5); clear hbox_ hb_ hg_; obtain ⟨hc_res_0, hc_res_1, hc_res_2, hc_res_3, hc_res_4, hc_res_5, hf_res_0, hf_res_1, hf_res_2, hf_res_3, hf_res_4, hf_res_5⟩ := box6 BK_res.out; obtain ⟨hc_st_0, hc_st_1, hc_st_2, hf_st_0, hf_st_1, hf_st_2⟩ := box3 HI.out.1) | (go_at_call 66; (with_reducible refine (codec_reader_number.calls k g_rd a0 a1 0 v1 s1 p1 e1 w _ HI.out HB.out HX1.out).mono ?_); rintro e_ w3_ ⟨rfl, hi_, hb_, hk_⟩; have n0_ := Aside0.mk (hk_.blk BK_res.out (Ne.symm (HI.out.ne_blk BK_res.out (by decide))) (by simp)); have n1_ := Aside0.mk (hi_); have n2_ := Aside0.mk (hb_); (try clear BK_res); (try clear HI); (try clear HB); have BK_res := n0_; have HI := n1_; have HB := n2_; clear n0_ n1_ n2_; (try clear hc_res_0 hc_res_1 hc_res_2 hc_res_3 hc_res_4 hc_res_5 hf_res_0 hf_res_1 hf_res_2 hf_res_3 hf_res_4 hf_res_5); (try clear hc_st_0 hc_st_1 hc_st_2 hf_st_0 hf_st_1 hf_st_2); (try clear hi_); (try clear hb_); (try clear hk_); obtain ⟨hc_res_0, hc_res_1, hc_res_2, hc_res_3, hc_res_4, hc_res_5, hf_res_0, hf_res_1, hf_res_2, hf_res_3, hf_res_4, hf_res_5⟩ := box6 BK_res.out; obtain ⟨hc_st_0, hc_st_1, hc_st_2, hf_st_0, hf_st_1, hf_st_2⟩ := box3 HI.out.1) | (go_at_call 66; (with_reducible refine (codec_reader_number.calls k g_rd s1 p1 e1 v2 s2 p2 e2 w _ HI.out HB.out HX2.out).mono ?_); rintro e_ w4_ ⟨rfl, hi_, hb_, hk_⟩; have n0_ := Aside0.mk (hk_.blk BK_res.out (Ne.symm (HI.out.ne_blk BK_res.out (by decide))) (by simp)); have n1_ := Aside0.mk (hi_); have n2_ := Aside0.mk (hb_); (try clear BK_res); (try clear HI); (try clear HB); have BK_res := n0_; have HI := n1_; have HB := n2_; clear n0_ n1_ n2_; (try clear hc_res_0 hc_res_1 hc_res_2 hc_res_3 hc_res_4 hc_res_5 hf_res_0 hf_res_1 hf_res_2 hf_res_3 hf_res_4 hf_res_5); (try clear hc_st_0 hc_st_1 hc_st_2 hf_st_0 hf_st_1 hf_st_2); (try clear hi_); (try clear hb_); (try clear hk_); obtain ⟨hc_res_0, hc_res_1, hc_res_2, hc_res_3, hc_res_4, hc_res_5, hf_res_0, hf_res_1, hf_res_2, hf_res_3, hf_res_4, hf_res_5⟩ := box6 BK_res.out; obtain ⟨hc_st_0, hc_st_1, hc_st_2, hf_st_0, hf_st_1, hf_st_2⟩ := box3 HI.out.1) | (go_at_call 67; (with_reducible refine (codec_reader_text.calls k g_rd s2 p2 e2 v3 s3 p3 e3 w _ HI.out HB.out HX3.out).mono ?_); rintro e_ w5_ ⟨rfl, hi_, hb_, hk_⟩; have n0_ := Aside0.mk (hk_.blk BK_res.out (Ne.symm (HI.out.ne_blk BK_res.out (by decide))) (by simp)); have n1_ := Aside0.mk (hi_); have n2_ := Aside0.mk (hb_); (try clear BK_res); (try clear HI); (try clear HB); have BK_res := n0_; have HI := n1_; have HB := n2_; clear n0_ n1_ n2_; (try clear hc_res_0 hc_res_1 hc_res_2 hc_res_3 hc_res_4 hc_res_5 hf_res_0 hf_res_1 hf_res_2 hf_res_3 hf_res_4 hf_res_5); (try clear hc_st_0 hc_st_1 hc_st_2 hf_st_0 hf_st_1 hf_st_2); (try clear hi_); (try clear hb_); (try clear hk_); obtain ⟨hc_res_0, hc_res_1, hc_res_2, hc_res_3, hc_res_4, hc_res_5, hf_res_0, hf_res_1, hf_res_2, hf_res_3, hf_res_4, hf_res_5⟩ := box6 BK_res.out; obtain ⟨hc_st_0, hc_st_1, hc_st_2, hf_st_0, hf_st_1, hf_st_2⟩ := box3 HI.out.1) | (go_at_call 66; (with_reducible refine (codec_reader_number.calls k g_rd s3 p3 e3 v4 s4 p4 e4 w _ HI.out HB.out HX4.out).mono ?_); rintro e_ w6_ ⟨rfl, hi_, hb_, hk_⟩; have n0_ := Aside0.mk (hk_.blk BK_res.out (Ne.symm (HI.out.ne_blk BK_res.out (by decide))) (by simp)); have n1_ := Aside0.mk (hi_); have n2_ := Aside0.mk (hb_); (try clear BK_res); (try clear HI); (try clear HB); have BK_res := n0_; have HI := n1_; have HB := n2_; clear n0_ n1_ n2_; (try clear hc_res_0 hc_res_1 hc_res_2 hc_res_3 hc_res_4 hc_res_5 hf_res_0 hf_res_1 hf_res_2 hf_res_3 hf_res_4 hf_res_5); (try clear hc_st_0 hc_st_1 hc_st_2 hf_st_0 hf_st_1 hf_st_2); (try clear hi_); (try clear hb_); (try clear hk_); obtain ⟨hc_res_0, hc_res_1, hc_res_2, hc_res_3, hc_res_4, hc_res_5, hf_res_0, hf_res_1, hf_res_2, hf_res_3, hf_res_4, hf_res_5⟩ := box6 BK_res.out; obtain ⟨hc_st_0, hc_st_1, hc_st_2, hf_st_0, hf_st_1, hf_st_2⟩ := box3 HI.out.1) | (go_at_call 68; (with_reducible refine (codec_reader_numbers.calls k g_rd s4 p4 e4 v5 s5 p5 e5 w _ HI.out HB.out HX5.out).mono ?_); rintro e_ w7_ ⟨v_, rfl, hr_, hi_, hb_, hk_⟩; obtain ⟨A_l, c_l, ev_⟩ := Kd.R_slice hr_; subst ev_; have n0_ := Aside0.mk (hk_.blk BK_res.out (Ne.symm (HI.out.ne_blk BK_res.out (by decide))) (by simp)); have n1_ := Aside0.mk (Kd.R_lower hr_ HB.out.size); have n2_ := Aside0.mk (hi_); have n3_ := Aside0.mk (hb_); (try clear BK_res); (try clear HR_l); (try clear HI); (try clear HB); have BK_res := n0_; have HR_l := n1_; have HI := n2_; have HB := n3_; clear n0_ n1_ n2_ n3_; (try clear hc_res_0 hc_res_1 hc_res_2 hc_res_3 hc_res_4 hc_res_5 hf_res_0 hf_res_1 hf_res_2 hf_res_3 hf_res_4 hf_res_5); (try clear hc_st_0 hc_st_1 hc_st_2 hf_st_0 hf_st_1 hf_st_2); (try clear hi_); (try clear hb_); (try clear hk_); (try clear hr_); obtain ⟨hc_res_0, hc_res_1, hc_res_2, hc_res_3, hc_res_4, hc_res_5, hf_res_0, hf_res_1, hf_res_2, hf_res_3, hf_res_4, hf_res_5⟩ := box6 BK_res.out; obtain ⟨hc_st_0, hc_st_1, hc_st_2, hf_st_0, hf_st_1, hf_st_2⟩ := box3 HI.out.1) | (go_at_call 66; (with_reducible refine (codec_reader_number.calls k g_rd s5 p5 e5 v6 s6 p6 e6 w _ HI.out HB.out HX6.out).mono ?_); rintro e_ w8_ ⟨rfl, hi_, hb_, hk_⟩; have n0_ := Aside0.mk (hk_.blk BK_res.out (Ne.symm (HI.out.ne_blk BK_res.out (by decide))) (by simp)); have n1_ := Aside0.mk (Kd.R_mono (Kd.R_keep (HI.out.apart HR_l.out (by decide)) hk_ (fun _ h_ => h_.2)) (fun _ h_ => h_.1)); have n2_ := Aside0.mk (hi_); have n3_ := Aside0.mk (hb_); (try clear BK_res); (try clear HR_l); (try clear HI); (try clear HB); have BK_res := n0_; have HR_l := n1_; have HI := n2_; have HB := n3_; clear n0_ n1_ n2_ n3_; (try clear hc_res_0 hc_res_1 hc_res_2 hc_res_3 hc_res_4 hc_res_5 hf_res_0 hf_res_1 hf_res_2 hf_res_3 hf_res_4 hf_res_5); (try clear hc_st_0 hc_st_1 hc_st_2 hf_st_0 hf_st_1 hf_st_2); (try clear hi_); (try clear hb_); (try clear hk_); obtain ⟨hc_res_0, hc_res_1, hc_res_2, hc_res_3, hc_res_4, hc_res_5, hf_res_0, hf_res_1, hf_res_2, hf_res_3, hf_res_4, hf_res_5⟩ := box6 BK_res.out; obtain ⟨hc_st_0, hc_st_1, hc_st_2, hf_st_0, hf_st_1, hf_st_2⟩ := box3 HI.out.1) | ((with_reducible refine gate_dst (N := 8) rfl ?_); refine box_event ?hg (N := 8) ?hd (cs := #[.int .i64 0, .int .i64 0, .string ⟨#[]⟩, .int .i64 0, .slice none 0 0, .int .i64 0]) (t := 24) ?hr ?_; (case hd => rfl); (case hg => rfl); (case hr => first | (go_simp; done) | (go_simp; rfl)); intro g_c hg_ w9_ hbox_ hb_; have n0_ := Aside0.mk (blk_below BK_res.out hb_); have n1_ := Aside0.mk (HI.out.below hb_); have n2_ := Aside0.mk (Kd.R_below HR_l.out hb_); have n3_ := Aside0.mk (below_step HB.out hb_); have n4_ := Aside0.mk ((by rw [hg_]; exact HB.out.size : w.heap.size ≤ g_c)); have n5_ := Aside0.mk ((by rw [hg_]; exact Nat.ne_of_lt (blk_lt BK_res.out) : g_res ≠ g_c)); have n6_ := Aside0.mk (hbox_); (try clear BK_res); (try clear HI); (try clear HR_l); (try clear HB); (try clear GE_c); (try clear NB_res_c); (try clear BK_c); have BK_res := n0_; have HI := n1_; have HR_l := n2_; have HB := n3_; have GE_c := n4_; have NB_res_c := n5_; have BK_c := n6_; clear n0_ n1_ n2_ n3_ n4_ n5_ n6_; (try clear hc_res_0 hc_res_1 hc_res_2 hc_res_3 hc_res_4 hc_res_5 hf_res_0 hf_res_1 hf_res_2 hf_res_3 hf_res_4 hf_res_5); (try clear hc_st_0 hc_st_1 hc_st_2 hf_st_0 hf_st_1 hf_st_2); clear hbox_ hb_ hg_; obtain ⟨hc_res_0, hc_res_1, hc_res_2, hc_res_3, hc_res_4, hc_res_5, hf_res_0, hf_res_1, hf_res_2, hf_res_3, hf_res_4, hf_res_5⟩ := box6 BK_res.out; obtain ⟨hc_c_0, hc_c_1, hc_c_2, hc_c_3, hc_c_4, hc_c_5, hf_c_0, hf_c_1, hf_c_2, hf_c_3, hf_c_4, hf_c_5⟩ := box6 BK_c.out; obtain ⟨hc_st_0, hc_st_1, hc_st_2, hf_st_0, hf_st_1, hf_st_2⟩ := box3 HI.out.1) | ((with_reducible refine gate_store (t := 24) (p := 8) rfl ?_); refine store_event (t := 24) (p := 8) (v := ?vo_w10_) (w1 := ((((((w9_.setCell ⟨g_c, 0, none⟩ (.int .i64 v1)).setCell ⟨g_c, 1, none⟩ (.int .i64 v2)).setCell ⟨g_c, 2, none⟩ (.string v3)).setCell ⟨g_c, 3, none⟩ (.int .i64 v4)).setCell ⟨g_c, 4, none⟩ (.slice A_l v5.length c_l)).setCell ⟨g_c, 5, none⟩ (.int .i64 v6))) ?hg ?ho ?hn ?hr ?_; (case ho => rfl); (case hg => rfl); (case hn => rfl); (case hr => first | (go_simp; done) | (go_simp; rfl)); intro w10_ hw_; have n0_ : Aside0 (w10_.heap[g_c]? = some (.cells #[.int .i64 v1, .int .i64 v2, .string v3, .int .i64 v4, .slice A_l v5.length c_l, .int .i64 v6] 24 (0, 0))) := ⟨(by rw [hw_]; exact (blk_put (cs' := #[.int .i64 v1, .int .i64 v2, .string v3, .int .i64 v4, .slice A_l v5.length c_l, .int .i64 v6]) (blk_put (cs' := #[.int .i64 v1, .int .i64 v2, .string v3, .int .i64 v4, .slice A_l v5.length c_l, .int .i64 0]) (blk_put (cs' := #[.int .i64 v1, .int .i64 v2, .string v3, .int .i64 v4, .slice none 0 0, .int .i64 0]) (blk_put (cs' := #[.int .i64 v1, .int .i64 v2, .string v3, .int .i64 0, .slice none 0 0, .int .i64 0]) (blk_put (cs' := #[.int .i64 v1, .int .i64 v2, .string ⟨#[]⟩, .int .i64 0, .slice none 0 0, .int .i64 0]) (blk_put (cs' := #[.int .i64 v1, .int .i64 0, .string ⟨#[]⟩, .int .i64 0, .slice none 0 0, .int .i64 0]) (BK_c.out) 0 _ rfl) 1 _ rfl) 2 _ rfl) 3 _ rfl) 4 _ rfl) 5 _ rfl))⟩; have n1_ : Aside0 (w10_.heap[g_res]? = some (.cells #[.int .i64 0, .int .i64 0, .string ⟨#[]⟩, .int .i64 0, .slice none 0 0, .int .i64 0] 24 (0, 0))) := ⟨(by rw [hw_]; exact (blk_far (p := ⟨g_c, 5, none⟩) (blk_far (p := ⟨g_c, 4, none⟩) (blk_far (p := ⟨g_c, 3, none⟩) (blk_far (p := ⟨g_c, 2, none⟩) (blk_far (p := ⟨g_c, 1, none⟩) (blk_far (p := ⟨g_c, 0, none⟩) (BK_res.out) (NB_res_c.out) _) (NB_res_c.out) _) (NB_res_c.out) _) (NB_res_c.out) _) (NB_res_c.out) _) (NB_res_c.out) _))⟩; have n2_ : Aside0 (IsS106 w w10_ g_rd s6 p6 e6) := ⟨(by rw [hw_]; exact (IsS106.far (p := ⟨g_c, 5, none⟩) (IsS106.far (p := ⟨g_c, 4, none⟩) (IsS106.far (p := ⟨g_c, 3, none⟩) (IsS106.far (p := ⟨g_c, 2, none⟩) (IsS106.far (p := ⟨g_c, 1, none⟩) (IsS106.far (p := ⟨g_c, 0, none⟩) (HI.out) (HI.out.ne_blk BK_c.out (by decide)) _) (HI.out.ne_blk BK_c.out (by decide)) _) (HI.out.ne_blk BK_c.out (by decide)) _) (HI.out.ne_blk BK_c.out (by decide)) _) (HI.out.ne_blk BK_c.out (by decide)) _) (HI.out.ne_blk BK_c.out (by decide)) _))⟩; have n3_ : Aside0 (Kd.R (Kd.int .i64) 3 w10_ w.heap.size (fun _ => True) (.slice A_l v5.length c_l) v5) := ⟨(by rw [hw_]; exact (Kd.R_mono (Kd.R_far (p := ⟨g_c, 5, none⟩) (Kd.R_far (p := ⟨g_c, 4, none⟩) (Kd.R_far (p := ⟨g_c, 3, none⟩) (Kd.R_far (p := ⟨g_c, 2, none⟩) (Kd.R_far (p := ⟨g_c, 1, none⟩) (Kd.R_far (p := ⟨g_c, 0, none⟩) (Kd.R_types HR_l.out BK_c.out (by decide)) (fun _ hk => hk.2) _) (fun _ hk => hk.2) _) (fun _ hk => hk.2) _) (fun _ hk => hk.2) _) (fun _ hk => hk.2) _) (fun _ hk => hk.2) _) (fun _ hk => hk.1)))⟩; have n4_ : Aside0 (Below w.heap.size w w10_) := ⟨(by rw [hw_]; exact (below_set (g := g_c) (j := 5) (below_set (g := g_c) (j := 4) (below_set (g := g_c) (j := 3) (below_set (g := g_c) (j := 2) (below_set (g := g_c) (j := 1) (below_set (g := g_c) (j := 0) (HB.out) GE_c.out) GE_c.out) GE_c.out) GE_c.out) GE_c.out) GE_c.out))⟩; (try clear BK_c); (try clear BK_res); (try clear HI); (try clear HR_l); (try clear HB); have BK_c := n0_; have BK_res := n1_; have HI := n2_; have HR_l := n3_; have HB := n4_; clear n0_ n1_ n2_ n3_ n4_; (try clear hc_res_0 hc_res_1 hc_res_2 hc_res_3 hc_res_4 hc_res_5 hf_res_0 hf_res_1 hf_res_2 hf_res_3 hf_res_4 hf_res_5); (try clear hc_c_0 hc_c_1 hc_c_2 hc_c_3 hc_c_4 hc_c_5 hf_c_0 hf_c_1 hf_c_2 hf_c_3 hf_c_4 hf_c_5); (try clear hc_st_0 hc_st_1 hc_st_2 hf_st_0 hf_st_1 hf_st_2); clear hw_; obtain ⟨hc_res_0, hc_res_1, hc_res_2, hc_res_3, hc_res_4, hc_res_5, hf_res_0, hf_res_1, hf_res_2, hf_res_3, hf_res_4, hf_res_5⟩ := box6 BK_res.out; obtain ⟨hc_c_0, hc_c_1, hc_c_2, hc_c_3, hc_c_4, hc_c_5, hf_c_0, hf_c_1, hf_c_2, hf_c_3, hf_c_4, hf_c_5⟩ := box6 BK_c.out; obtain ⟨hc_st_0, hc_st_1, hc_st_2, hf_st_0, hf_st_1, hf_st_2⟩ := box3 HI.out.1) | (go_at_call 69; (with_reducible refine (end_cmd_err k g_rd s6 p6 v1 v2 v3 v4 A_l c_l v5 v6 w _ e6 C0.out HI.out HB.out (Kd.C_foot_own (HI.out.apart HR_l.out (by decide)) (fun _ h_ => h_.2)) (Kd.R_reads' HR_l.out).2.1).mono ?_); rintro e_ w11_ ⟨rfl, hi_, hb_, hk_⟩; have n0_ := Aside0.mk (hk_.blk BK_res.out (Ne.symm (HI.out.ne_blk BK_res.out (by decide))) (by simp)); have n1_ := Aside0.mk (hk_.blk BK_c.out (Ne.symm (HI.out.ne_blk BK_c.out (by decide))) (by simp)); have n2_ := Aside0.mk (Kd.R_mono (Kd.R_keep (HI.out.apart HR_l.out (by decide)) hk_ (fun _ h_ => h_.2)) (fun _ h_ => h_.1)); have n3_ := Aside0.mk (hi_); have n4_ := Aside0.mk (hb_); (try clear BK_res); (try clear BK_c); (try clear HR_l); (try clear HI); (try clear HB); have BK_res := n0_; have BK_c := n1_; have HR_l := n2_; have HI := n3_; have HB := n4_; clear n0_ n1_ n2_ n3_ n4_; (try clear hc_res_0 hc_res_1 hc_res_2 hc_res_3 hc_res_4 hc_res_5 hf_res_0 hf_res_1 hf_res_2 hf_res_3 hf_res_4 hf_res_5); (try clear hc_c_0 hc_c_1 hc_c_2 hc_c_3 hc_c_4 hc_c_5 hf_c_0 hf_c_1 hf_c_2 hf_c_3 hf_c_4 hf_c_5); (try clear hc_st_0 hc_st_1 hc_st_2 hf_st_0 hf_st_1 hf_st_2); (try clear hi_); (try clear hb_); (try clear hk_); obtain ⟨hc_res_0, hc_res_1, hc_res_2, hc_res_3, hc_res_4, hc_res_5, hf_res_0, hf_res_1, hf_res_2, hf_res_3, hf_res_4, hf_res_5⟩ := box6 BK_res.out; obtain ⟨hc_c_0, hc_c_1, hc_c_2, hc_c_3, hc_c_4, hc_c_5, hf_c_0, hf_c_1, hf_c_2, hf_c_3, hf_c_4, hf_c_5⟩ := box6 BK_c.out; obtain ⟨hc_st_0, hc_st_1, hc_st_2, hf_st_0, hf_st_1, hf_st_2⟩ := box3 HI.out.1) | ((with_reducible refine gate_store (t := 24) (p := 4) rfl ?_); refine store_event (t := 24) (p := 4) (v := ?vo_w12_) (w1 := ((((((w11_.setCell ⟨g_res, 0, none⟩ (.int .i64 0)).setCell ⟨g_res, 1, none⟩ (.int .i64 0)).setCell ⟨g_res, 2, none⟩ (.string ⟨#[]⟩)).setCell ⟨g_res, 3, none⟩ (.int .i64 0)).setCell ⟨g_res, 4, none⟩ (.slice none 0 0)).setCell ⟨g_res, 5, none⟩ (.int .i64 0))) ?hg ?ho ?hn ?hr ?_; (case ho => rfl); (case hg => rfl); (case hn => rfl); (case hr => first | (go_simp; done) | (go_simp; rfl)); intro w12_ hw_; have n0_ : Aside0 (w12_.heap[g_res]? = some (.cells #[.int .i64 0, .int .i64 0, .string ⟨#[]⟩, .int .i64 0, .slice none 0 0, .int .i64 0] 24 (0, 0))) := ⟨(by rw [hw_]; exact (blk_put (cs' := #[.int .i64 0, .int .i64 0, .string ⟨#[]⟩, .int .i64 0, .slice none 0 0, .int .i64 0]) (blk_put (cs' := #[.int .i64 0, .int .i64 0, .string ⟨#[]⟩, .int .i64 0, .slice none 0 0, .int .i64 0]) (blk_put (cs' := #[.int .i64 0, .int .i64 0, .string ⟨#[]⟩, .int .i64 0, .slice none 0 0, .int .i64 0]) (blk_put (cs' := #[.int .i64 0, .int .i64 0, .string ⟨#[]⟩, .int .i64 0, .slice none 0 0, .int .i64 0]) (blk_put (cs' := #[.int .i64 0, .int .i64 0, .string ⟨#[]⟩, .int .i64 0, .slice none 0 0, .int .i64 0]) (blk_put (cs' := #[.int .i64 0, .int .i64 0, .string ⟨#[]⟩, .int .i64 0, .slice none 0 0, .int .i64 0]) (BK_res.out) 0 _ rfl) 1 _ rfl) 2 _ rfl) 3 _ rfl) 4 _ rfl) 5 _ rfl))⟩; have n1_ : Aside0 (w12_.heap[g_c]? = some (.cells #[.int .i64 v1, .int .i64 v2, .string v3, .int .i64 v4, .slice A_l v5.length c_l, .int .i64 v6] 24 (0, 0))) := ⟨(by rw [hw_]; exact (blk_far (p := ⟨g_res, 5, none⟩) (blk_far (p := ⟨g_res, 4, none⟩) (blk_far (p := ⟨g_res, 3, none⟩) (blk_far (p := ⟨g_res, 2, none⟩) (blk_far (p := ⟨g_res, 1, none⟩) (blk_far (p := ⟨g_res, 0, none⟩) (BK_c.out) (Ne.symm NB_res_c.out) _) (Ne.symm NB_res_c.out) _) (Ne.symm NB_res_c.out) _) (Ne.symm NB_res_c.out) _) (Ne.symm NB_res_c.out) _) (Ne.symm NB_res_c.out) _))⟩; have n2_ : Aside0 (IsS106 w w12_ g_rd s6 p6 e6) := ⟨(by rw [hw_]; exact (IsS106.far (p := ⟨g_res, 5, none⟩) (IsS106.far (p := ⟨g_res, 4, none⟩) (IsS106.far (p := ⟨g_res, 3, none⟩) (IsS106.far (p := ⟨g_res, 2, none⟩) (IsS106.far (p := ⟨g_res, 1, none⟩) (IsS106.far (p := ⟨g_res, 0, none⟩) (HI.out) (HI.out.ne_blk BK_res.out (by decide)) _) (HI.out.ne_blk BK_res.out (by decide)) _) (HI.out.ne_blk BK_res.out (by decide)) _) (HI.out.ne_blk BK_res.out (by decide)) _) (HI.out.ne_blk BK_res.out (by decide)) _) (HI.out.ne_blk BK_res.out (by decide)) _))⟩; have n3_ : Aside0 (Kd.R (Kd.int .i64) 3 w12_ w.heap.size (fun _ => True) (.slice A_l v5.length c_l) v5) := ⟨(by rw [hw_]; exact (Kd.R_mono (Kd.R_far (p := ⟨g_res, 5, none⟩) (Kd.R_far (p := ⟨g_res, 4, none⟩) (Kd.R_far (p := ⟨g_res, 3, none⟩) (Kd.R_far (p := ⟨g_res, 2, none⟩) (Kd.R_far (p := ⟨g_res, 1, none⟩) (Kd.R_far (p := ⟨g_res, 0, none⟩) (Kd.R_types HR_l.out BK_res.out (by decide)) (fun _ hk => hk.2) _) (fun _ hk => hk.2) _) (fun _ hk => hk.2) _) (fun _ hk => hk.2) _) (fun _ hk => hk.2) _) (fun _ hk => hk.2) _) (fun _ hk => hk.1)))⟩; have n4_ : Aside0 (Below w.heap.size w w12_) := ⟨(by rw [hw_]; exact (below_set (g := g_res) (j := 5) (below_set (g := g_res) (j := 4) (below_set (g := g_res) (j := 3) (below_set (g := g_res) (j := 2) (below_set (g := g_res) (j := 1) (below_set (g := g_res) (j := 0) (HB.out) GE_res.out) GE_res.out) GE_res.out) GE_res.out) GE_res.out) GE_res.out))⟩; (try clear BK_res); (try clear BK_c); (try clear HI); (try clear HR_l); (try clear HB); have BK_res := n0_; have BK_c := n1_; have HI := n2_; have HR_l := n3_; have HB := n4_; clear n0_ n1_ n2_ n3_ n4_; (try clear hc_res_0 hc_res_1 hc_res_2 hc_res_3 hc_res_4 hc_res_5 hf_res_0 hf_res_1 hf_res_2 hf_res_3 hf_res_4 hf_res_5); (try clear hc_c_0 hc_c_1 hc_c_2 hc_c_3 hc_c_4 hc_c_5 hf_c_0 hf_c_1 hf_c_2 hf_c_3 hf_c_4 hf_c_5); (try clear hc_st_0 hc_st_1 hc_st_2 hf_st_0 hf_st_1 hf_st_2); clear hw_; obtain ⟨hc_res_0, hc_res_1, hc_res_2, hc_res_3, hc_res_4, hc_res_5, hf_res_0, hf_res_1, hf_res_2, hf_res_3, hf_res_4, hf_res_5⟩ := box6 BK_res.out; obtain ⟨hc_c_0, hc_c_1, hc_c_2, hc_c_3, hc_c_4, hc_c_5, hf_c_0, hf_c_1, hf_c_2, hf_c_3, hf_c_4, hf_c_5⟩ := box6 BK_c.out; obtain ⟨hc_st_0, hc_st_1, hc_st_2, hf_st_0, hf_st_1, hf_st_2⟩ := box3 HI.out.1))
  refine bodyPost_ret (v := .tuple #[.agg #[.int .i64 0, .int .i64 0, .string ⟨#[]⟩, .int .i64 0, .slice none 0 0, .int .i64 0], .int .i64 0, .int .i64 e6]) ?_ rfl ?_
  ·refine results_list (rs := [.cell 4 24, .tmp 5, .tmp 6]) (vs := [.agg #[.int .i64 0, .int .i64 0, .string ⟨#[]⟩, .int .i64 0, .slice none 0 0, .int .i64 0], .int .i64 0, .int .i64 e6]) rfl (by simp) ?_
   exact .cell g_res 24 #[.int .i64 0, .int .i64 0, .string ⟨#[]⟩, .int .i64 0, .slice none 0 0, .int .i64 0] (0, 0) _ rfl BK_res.out Try.underlying24 rfl (by kernel_rfl) (.tmp (.tmp .nil))
  exact ⟨_, rfl, Kd.R_nil _ _ _ _ _, HB.out⟩
def zig (n : Int) : Nat := if n < 0 then (-2 * n - 1).toNat else (2 * n).toNat
def digL : Nat → Nat → List Nat
 | 0, _ => []
 | f + 1, u => if u < 128 then [u] else (u % 128 + 128) :: digL f (u / 128)
def ints (l : List Nat) : List Int := l.map fun (n : Nat) => (n : Int)
def numB (n : Int) : ByteArray := strOfNums (ints (digL 10 (zig n)))
theorem zig_lt (n : Int) (h0 : -9223372036854775808 ≤ n) (h1 : n ≤ 9223372036854775807) : zig n < 18446744073709551616 := by
 unfold zig
 split <;> omega
def varint_Number.f (a0 : Int) : Option ByteArray := if -9223372036854775808 ≤ a0 ∧ a0 ≤ 9223372036854775807 then some (numB a0) else none
theorem xor_max64 (x : Nat) (hx : x < 18446744073709551616) : Go.bits .xor .u64 18446744073709551615 (x : Int) = 18446744073709551615 - (x : Int) := by
 have h64 : (18446744073709551615 ^^^ x : Nat) = 18446744073709551615 - x := by
  have : (18446744073709551615 : Nat) = 2 ^ 64 - 1 := rfl
  rw [this]
  apply Nat.eq_of_testBit_eq
  intro j
  rw [Nat.testBit_xor, Nat.testBit_two_pow_sub_one, Nat.sub_sub, Nat.add_comm 1 x, Nat.testBit_two_pow_sub_succ (by omega)]
  by_cases hj : j < 64
  ·simp [hj]
  ·have : x.testBit j = false := Nat.testBit_lt_two_pow (Nat.lt_of_lt_of_le hx (Nat.pow_le_pow_right (n := 2) (i := 64) (j := j) (by decide) (by omega)))
   simp [hj, this]
 have e1 : (18446744073709551615 : Int) = ((18446744073709551615 : Nat) : Int) := rfl
 unfold Go.bits
 rw [e1]
 simp only [BitVec.ofInt_natCast, BitVec.toNat_xor, BitVec.toNat_ofNat]
 have e2 : x % 2 ^ IntKind.u64.bits = x := Nat.mod_eq_of_lt hx
 have e3 : 18446744073709551615 % 2 ^ IntKind.u64.bits = 18446744073709551615 := by decide
 rw [e2, e3, h64]
 have : IntKind.u64.wrap ((18446744073709551615 - x : Nat) : Int) = ((18446744073709551615 - x : Nat) : Int) := by
  simp [IntKind.wrap, IntKind.bits, IntKind.signed]
  omega
 rw [this]
 omega
theorem or128 (u : Nat) : Go.bits .or .u8 ((u : Int) % 256) 128 = ((u % 128 + 128 : Nat) : Int) := by
 have h := (bits_nat .u8 8 (by decide) wraps_u8 (u % 256) 128 (by omega) (by omega)).2
 have e : ((u % 256 : Nat) : Int) = (u : Int) % 256 := by omega
 rw [e] at h
 have e2 : ((128 : Nat) : Int) = 128 := rfl
 rw [e2] at h
 rw [h]
 have h2 : u % 256 ||| 128 = u % 128 + 128 := by
  have h3 : u % 128 + 128 = 128 ||| u % 128 := by
   have := Nat.two_pow_add_eq_or_of_lt (i := 7) (show u % 128 < 2 ^ 7 by omega) 1
   rw [Nat.mul_one] at this
   have e7 : (2 : Nat) ^ 7 = 128 := rfl
   rw [e7] at this
   omega
  rw [h3]
  apply Nat.eq_of_testBit_eq
  intro j
  rw [Nat.testBit_or, Nat.testBit_or]
  have e256 : (256 : Nat) = 2 ^ 8 := rfl
  have e128 : (128 : Nat) = 2 ^ 7 := rfl
  rw [e256, e128, Nat.testBit_mod_two_pow, Nat.testBit_mod_two_pow, Nat.testBit_two_pow]
  by_cases h7 : j = 7
  ·subst h7; simp
  ·by_cases hj : j < 7
   ·simp [hj, show j < 8 by omega, Bool.or_comm]
   ·simp [hj, show ¬ j < 8 by omega]
 rw [h2]
def u8s (t : List Int) : Array Value := (t.map (Value.int .u8)).toArray
def tens (pre : List Nat) : List Int := ints pre ++ List.replicate (10 - pre.length) 0
theorem tens_length (pre : List Nat) (h : pre.length ≤ 10) : (tens pre).length = 10 := by simp [tens, ints]; omega
theorem tens_set (pre : List Nat) (x : Nat) (h : pre.length < 10) : (u8s (tens pre)).setIfInBounds pre.length (.int .u8 (x : Int)) = u8s (tens (pre ++ [x])) := by
 have e : (tens pre).set pre.length (x : Int) = tens (pre ++ [x]) := by
  have h2 : (ints pre).length = pre.length := by simp [ints]
  have h3 : 10 - pre.length = (10 - (pre.length + 1)) + 1 := by omega
  unfold tens
  rw [List.set_append_right _ _ (by omega), h2, Nat.sub_self, h3, List.replicate_succ, List.set_cons_zero]
  simp [ints]
 rw [← e]
 simp [u8s, List.map_set]
theorem u8s_cell {w : World} {b T : Nat} {t : List Int} (hb : w.heap[b]? = some (.cells (u8s t) T (0, 0))) (i : Nat) (hi : i < t.length) : w.cell? ⟨b, i, none⟩ = some (.int .u8 (t.getD i 0)) := by
 rw [cell_of_row w b i _ T _ hb]
 simp [u8s, hi]
theorem u8s_zero : u8s (tens []) = #[.int .u8 0, .int .u8 0, .int .u8 0, .int .u8 0, .int .u8 0, .int .u8 0, .int .u8 0, .int .u8 0, .int .u8 0, .int .u8 0] := by
 simp [u8s, tens, ints, List.replicate_succ]
theorem wrap_u64 (n : Int) : IntKind.u64.wrap n = n % 18446744073709551616 := by simp [IntKind.wrap, IntKind.bits, IntKind.signed]
theorem zig_pos (n : Int) (h0 : ¬ n < 0) (h1 : n ≤ 9223372036854775807) : IntKind.u64.wrap (IntKind.u64.wrap n * 2) = ((zig n : Nat) : Int) := by
 rw [wrap_u64, wrap_u64, zig, if_neg h0]
 omega
theorem zig_neg (n : Int) (h0 : n < 0) (h1 : -9223372036854775808 ≤ n) : Go.bits .xor .u64 IntKind.u64.max (IntKind.u64.wrap (IntKind.u64.wrap n * 2)) = ((zig n : Nat) : Int) := by
 have e : IntKind.u64.wrap (IntKind.u64.wrap n * 2) = (((2 * n + 18446744073709551616).toNat : Nat) : Int) := by
  rw [wrap_u64, wrap_u64]
  omega
 have e2 : IntKind.u64.max = 18446744073709551615 := rfl
 rw [e, e2, xor_max64 _ (by omega), zig, if_pos h0]
 omega
def Room (u m : Nat) : Prop := u < 2 ^ (64 - 7 * m)
theorem Room.next {u m : Nat} (h : Room u m) (hu : 128 ≤ u) : m ≤ 8 ∧ Room (u / 128) (m + 1) := by
 unfold Room at *
 have hm : m ≤ 8 := by
  rcases Nat.lt_or_ge m 9 with h9 | h9
  ·omega
  ·have : 2 ^ (64 - 7 * m) ≤ 2 ^ 1 := Nat.pow_le_pow_right (by decide) (by omega)
   omega
 refine ⟨hm, ?_⟩
 have e : 64 - 7 * m = (64 - 7 * (m + 1)) + 7 := by omega
 rw [e, Nat.pow_add] at h
 have : u / 128 < 2 ^ (64 - 7 * (m + 1)) := Nat.div_lt_of_lt_mul (by rw [Nat.mul_comm]; exact h)
 exact this
theorem digL_more (f u : Nat) (h : 128 ≤ u) : digL (f + 1) u = (u % 128 + 128) :: digL f (u / 128) := by rw [digL, if_neg (by omega)]
theorem digL_last (f u : Nat) (h : u < 128) : digL (f + 1) u = [u] := by rw [digL, if_pos h]
theorem array_len : Try.prog.arrayLen 141 = 10 := by kernel_rfl
theorem array_elem (W : World) : (sizeOf (Try.prog.elem 141)).run Try.prog W = .ok 1 W := by kernel_rfl
theorem slice_ten (g m : Nat) (hm : m < 10) (W : World) : (Instr.sliceAt 141 (.pointer (some ⟨g, 0, none⟩)) none (some (.int .i64 ((m : Int) + 1))) none).run Try.prog W = .ok (.slice (some ⟨g, 0, none⟩) (m + 1) 10) W := by
 have h := run_sliceAt_array_h (P := Try.prog) W 141 ⟨g, 0, none⟩ Try.underlying141 .i64 ((m : Int) + 1) (by omega) (by rw [array_len]; omega)
 have e : ((m : Int) + 1).toNat = m + 1 := by omega
 rw [h, array_len, e, array_elem]
 simp [slicedAt]
 exact add_plain g 0
set_option maxHeartbeats 2000000 in
theorem varint_Number.calls (a0 : Int) (r : ByteArray) (w : World) (h : varint_Number.f a0 = some r) :
  Calls Try.prog 87 #[.int .i64 a0] w fun e w' => e = .returned (.string r) ∧ Below w.heap.size w w' := by
 unfold varint_Number.f at h
 split at h
 case isFalse => cases h
 case isTrue hr =>
 obtain rfl := Option.some.inj h
 have HR := Aside0.mk hr
 have HZ := Aside0.mk (zig_lt a0 hr.1 hr.2)
 have HP := Aside0.mk (fun h => zig_pos a0 h hr.2)
 have HN := Aside0.mk (fun h => zig_neg a0 h hr.1)
 clear hr h
 unfold numB
 generalize zig a0 = z at HZ HP HN
 by_cases hn : a0 < 0
 ·have HE := Aside0.mk (HN.out hn)
  go_enter Try.func87, Try.ntmps87
  go_wp2
  rw [HE.out]
  clear HE HN HP HR
  rw [← u8s_zero]
  have HB0 := Aside0.mk (below_alloc (Below.refl w.heap.size w) (.cells (u8s (tens [])) 141))
  go_loopg [3, 5] 10 (fun kq v3 v5 wr => ∃ (u : Nat) (pre : List Nat), v3 = .int .u64 u ∧ v5 = .int .i64 pre.length ∧ Aside0 (pre.length + kq = 10 ∧ 1 ≤ kq ∧ Room u pre.length) ∧ Aside0 (digL 10 z = pre ++ digL kq u) ∧ Aside0 (wr.heap[w.heap.size]? = some (.cells (u8s (tens pre)) 141 (0, 0))) ∧ Aside0 (Below w.heap.size w wr))
  case atStart => exact ⟨z, [], rfl, rfl, ⟨rfl, by decide, HZ.out⟩, ⟨rfl⟩, ⟨heap_alloc_new w _⟩, HB0⟩
  case round =>
   clear HB0 HZ
   obtain ⟨u, pre, rfl, rfl, HK, HD, HO, HW⟩ := hrel
   obtain ⟨kq, rfl⟩ : ∃ m, gk = m + 1 := ⟨gk - 1, by have := HK.out; omega⟩
   obtain ⟨m, hm⟩ : ∃ m, m = pre.length := ⟨_, rfl⟩
   rw [← hm]
   have hm10 : m < 10 := by have := HK.out; omega
   have hc2 := u8s_cell HO.out m (by rw [tens_length pre (by omega)]; exact hm10)
   have hf2 := blk_frozen HO.out m
   have HMm := Aside0.mk hm
   clear hm
   by_cases hu : 128 ≤ u
   ·have HV : Aside0 (Go.bits .or .u8 ((u : Int) % 256) 128 = ((u % 128 + 128 : Nat) : Int)) := ⟨or128 u⟩
    go_wp2
    have hroom := HK.out.2.2.next hu
    have HO1 : Aside0 ((wr.setCell ⟨w.heap.size, m, none⟩ (.int .u8 (Go.bits .or .u8 ((u : Int) % 256) 128))).heap[w.heap.size]? = some (.cells (u8s (tens (pre ++ [u % 128 + 128]))) 141 (0, 0))) := ⟨by
     rw [HV.out, HMm.out, ← tens_set pre _ (by rw [← HMm.out]; exact hm10)]
     exact blk_set HO.out _ _⟩
    have HW1 : Aside0 (Below w.heap.size w (wr.setCell ⟨w.heap.size, m, none⟩ (.int .u8 (Go.bits .or .u8 ((u : Int) % 256) 128)))) := ⟨below_set HW.out (Nat.le_refl _)⟩
    have hlen : (pre ++ [u % 128 + 128]).length = m + 1 := by rw [List.length_append, ← HMm.out]; rfl
    have hk1 : 1 ≤ kq := by have := HK.out; have := HMm.out; omega
    obtain ⟨k2, rfl⟩ : ∃ k2, kq = k2 + 1 := ⟨kq - 1, by omega⟩
    go_roundg (k2 + 1)
    case measure => omega
    case rel => exact ⟨u / 128, pre ++ [u % 128 + 128], by go_num, by rw [hlen]; go_num, ⟨by rw [hlen]; have := HK.out; have := HMm.out; omega, by omega, by rw [hlen, HMm.out]; exact hroom.2⟩, ⟨by rw [HD.out, digL_more _ _ hu, List.append_assoc]; rfl⟩, HO1, HW1⟩
   ·have hsl := slice_ten w.heap.size m hm10 (wr.setCell ⟨w.heap.size, m, none⟩ (.int .u8 (u : Int)))
    have hcs : (convert 74 9 (.slice (some ⟨w.heap.size, 0, none⟩) (m + 1) 10)).run Try.prog (wr.setCell ⟨w.heap.size, m, none⟩ (.int .u8 (u : Int))) = .ok (.string (strOfNums (ints (pre ++ [u])))) (wr.setCell ⟨w.heap.size, m, none⟩ (.int .u8 (u : Int))) := by
     have hlen : (pre ++ [u]).length = m + 1 := by rw [List.length_append, ← HMm.out]; rfl
     refine run_convert_bytes_arg _ 74 5 Try.underlying74 Try.underlying5 w.heap.size 0 (m + 1) 10 (ints (pre ++ [u])) (by rw [ints, List.length_map, hlen]) (fun i hi => ?_) 9 Try.underlying9
     have hb : (wr.setCell ⟨w.heap.size, m, none⟩ (.int .u8 (u : Int))).heap[w.heap.size]? = some (.cells (u8s (tens (pre ++ [u]))) 141 (0, 0)) := by
      rw [HMm.out, ← tens_set pre u (by rw [← HMm.out]; exact hm10)]
      exact blk_set HO.out _ _
     rw [Nat.zero_add, u8s_cell hb i (by rw [tens_length _ (by omega)]; omega)]
     congr 2
     simp only [List.getD_eq_getElem?_getD, tens]
     rw [List.getElem?_append_left (by rw [ints, List.length_map, hlen]; exact hi)]
    have HU := Aside0.mk hu
    have HC := Aside0.mk hcs
    clear hcs
    have hcs := HC.out
    go_wp2
    go_ret
    refine ⟨ret_str ?_, below_set HW.out (Nat.le_refl _)⟩
    rw [HD.out, digL_last _ _ (by have := HU.out; omega)]
 ·have HE := Aside0.mk (HP.out hn)
  go_enter Try.func87, Try.ntmps87
  go_wp2
  rw [HE.out]
  clear HE HN HP HR
  rw [← u8s_zero]
  have HB0 := Aside0.mk (below_alloc (Below.refl w.heap.size w) (.cells (u8s (tens [])) 141))
  go_loopg [3, 5] 10 (fun kq v3 v5 wr => ∃ (u : Nat) (pre : List Nat), v3 = .int .u64 u ∧ v5 = .int .i64 pre.length ∧ Aside0 (pre.length + kq = 10 ∧ 1 ≤ kq ∧ Room u pre.length) ∧ Aside0 (digL 10 z = pre ++ digL kq u) ∧ Aside0 (wr.heap[w.heap.size]? = some (.cells (u8s (tens pre)) 141 (0, 0))) ∧ Aside0 (Below w.heap.size w wr))
  case atStart => exact ⟨z, [], rfl, rfl, ⟨rfl, by decide, HZ.out⟩, ⟨rfl⟩, ⟨heap_alloc_new w _⟩, HB0⟩
  case round =>
   clear HB0 HZ
   obtain ⟨u, pre, rfl, rfl, HK, HD, HO, HW⟩ := hrel
   obtain ⟨kq, rfl⟩ : ∃ m, gk = m + 1 := ⟨gk - 1, by have := HK.out; omega⟩
   obtain ⟨m, hm⟩ : ∃ m, m = pre.length := ⟨_, rfl⟩
   rw [← hm]
   have hm10 : m < 10 := by have := HK.out; omega
   have hc2 := u8s_cell HO.out m (by rw [tens_length pre (by omega)]; exact hm10)
   have hf2 := blk_frozen HO.out m
   have HMm := Aside0.mk hm
   clear hm
   by_cases hu : 128 ≤ u
   ·have HV : Aside0 (Go.bits .or .u8 ((u : Int) % 256) 128 = ((u % 128 + 128 : Nat) : Int)) := ⟨or128 u⟩
    go_wp2
    have hroom := HK.out.2.2.next hu
    have HO1 : Aside0 ((wr.setCell ⟨w.heap.size, m, none⟩ (.int .u8 (Go.bits .or .u8 ((u : Int) % 256) 128))).heap[w.heap.size]? = some (.cells (u8s (tens (pre ++ [u % 128 + 128]))) 141 (0, 0))) := ⟨by
     rw [HV.out, HMm.out, ← tens_set pre _ (by rw [← HMm.out]; exact hm10)]
     exact blk_set HO.out _ _⟩
    have HW1 : Aside0 (Below w.heap.size w (wr.setCell ⟨w.heap.size, m, none⟩ (.int .u8 (Go.bits .or .u8 ((u : Int) % 256) 128)))) := ⟨below_set HW.out (Nat.le_refl _)⟩
    have hlen : (pre ++ [u % 128 + 128]).length = m + 1 := by rw [List.length_append, ← HMm.out]; rfl
    have hk1 : 1 ≤ kq := by have := HK.out; have := HMm.out; omega
    obtain ⟨k2, rfl⟩ : ∃ k2, kq = k2 + 1 := ⟨kq - 1, by omega⟩
    go_roundg (k2 + 1)
    case measure => omega
    case rel => exact ⟨u / 128, pre ++ [u % 128 + 128], by go_num, by rw [hlen]; go_num, ⟨by rw [hlen]; have := HK.out; have := HMm.out; omega, by omega, by rw [hlen, HMm.out]; exact hroom.2⟩, ⟨by rw [HD.out, digL_more _ _ hu, List.append_assoc]; rfl⟩, HO1, HW1⟩
   ·have hsl := slice_ten w.heap.size m hm10 (wr.setCell ⟨w.heap.size, m, none⟩ (.int .u8 (u : Int)))
    have hcs : (convert 74 9 (.slice (some ⟨w.heap.size, 0, none⟩) (m + 1) 10)).run Try.prog (wr.setCell ⟨w.heap.size, m, none⟩ (.int .u8 (u : Int))) = .ok (.string (strOfNums (ints (pre ++ [u])))) (wr.setCell ⟨w.heap.size, m, none⟩ (.int .u8 (u : Int))) := by
     have hlen : (pre ++ [u]).length = m + 1 := by rw [List.length_append, ← HMm.out]; rfl
     refine run_convert_bytes_arg _ 74 5 Try.underlying74 Try.underlying5 w.heap.size 0 (m + 1) 10 (ints (pre ++ [u])) (by rw [ints, List.length_map, hlen]) (fun i hi => ?_) 9 Try.underlying9
     have hb : (wr.setCell ⟨w.heap.size, m, none⟩ (.int .u8 (u : Int))).heap[w.heap.size]? = some (.cells (u8s (tens (pre ++ [u]))) 141 (0, 0)) := by
      rw [HMm.out, ← tens_set pre u (by rw [← HMm.out]; exact hm10)]
      exact blk_set HO.out _ _
     rw [Nat.zero_add, u8s_cell hb i (by rw [tens_length _ (by omega)]; omega)]
     congr 2
     simp only [List.getD_eq_getElem?_getD, tens]
     rw [List.getElem?_append_left (by rw [ints, List.length_map, hlen]; exact hi)]
    have HU := Aside0.mk hu
    have HC := Aside0.mk hcs
    clear hcs
    have hcs := HC.out
    go_wp2
    go_ret
    refine ⟨ret_str ?_, below_set HW.out (Nat.le_refl _)⟩
    rw [HD.out, digL_last _ _ (by have := HU.out; omega)]
attribute [local go_sem] max2_int min2_int max_two min_two max_three min_three max_four min_four
def varint_Text.f (a0 : ByteArray) : Option (ByteArray × Int) := if (a0.size : Int) > 4096 then (some ((⟨#[]⟩ : ByteArray), 4)) else ((varint_Number.f (a0.size : Int)).bind fun t102 => (if t102.size + a0.size ≤ 9223372036854775807 then (some (t102 ++ a0, 0)) else (none)))
theorem varint_Text.calls (a0 : ByteArray) (r1 : ByteArray) (r2 : Int) (w : World) (h : varint_Text.f a0 = some (r1, r2)) :
  Calls Try.prog 86 #[.string a0] w fun e w' => e = .returned (.tuple #[.string r1, .int .i64 r2]) ∧ Below w.heap.size w w' := by
 have HB := Aside0.mk (Below.refl w.heap.size w)
 have H : (if (a0.size : Int) > 4096 then (some ((⟨#[]⟩ : ByteArray), 4)) else ((varint_Number.f (a0.size : Int)).bind fun t102 => (if t102.size + a0.size ≤ 9223372036854775807 then (some (t102 ++ a0, 0)) else (none)))) = some (r1, r2) := h
 clear h
 by_cases c2 : (a0.size : Int) > 4096
 ·rw [if_pos c2] at H
  have c2b0 : decide (4096 < (a0.size : Int)) = true := decide_eq_true c2
  have c2b1 : decide (4096 < a0.size) = true := decide_eq_true (by omega)
  clear c2
  simp only [Option.some.injEq, Prod.mk.injEq] at H
  obtain ⟨rfl, rfl⟩ := H
  go_enter Try.func86, Try.ntmps86
  go_wp2
  go_ret2
  exact ⟨by first | rfl | (simp [errW_none, errW_some] <;> rfl) | (simp [*, errW_none, errW_some] <;> rfl), by repeat (first | (with_reducible first | exact HB.out | apply below_alloc | apply pw_below_drewN | apply below_drew1) | exact HB.out)⟩
 ·rw [if_neg c2] at H
  have c2b0 : decide (4096 < (a0.size : Int)) = false := decide_eq_false c2
  have c2b1 : decide (4096 < a0.size) = false := decide_eq_false (by omega)
  clear c2
  replace H := Option.bind_eq_some_iff.mp H
  obtain ⟨t102, A30, H⟩ := H
  replace H : (if t102.size + a0.size ≤ 9223372036854775807 then (some (t102 ++ a0, 0)) else (none)) = some (r1, r2) := H
  have A3 := Aside0.mk A30
  clear A30
  by_cases c4 : t102.size + a0.size ≤ 9223372036854775807
  ·rw [if_pos c4] at H
   have c4b0 := eq_true c4
   have c4b1 : decide (t102.size + a0.size ≤ 9223372036854775807) = true := decide_eq_true c4
   try have c4b2 : (9223372036854775807 < t102.size + a0.size) = False := eq_false (Nat.not_lt.2 c4)
   simp only [Option.some.injEq, Prod.mk.injEq] at H
   obtain ⟨rfl, rfl⟩ := H
   go_enter Try.func86, Try.ntmps86
   go_wp2_with (first | ((with_reducible refine gate_callee (f := 87) rfl ?_); refine goesL_ (some 9) rfl rfl Try.func87 (by kernel_rfl) rfl #[.int .i64 (a0.size : Int)] rfl (by (try simp only [List.map_toArray, List.map_cons, List.map_nil]); first | done | rfl | (simp only [List.length_drop, List.length_take]; rfl)) ?_; (with_reducible refine (varint_Number.calls (a0.size : Int) t102 _ A3.out).mono ?_); rintro e w5 ⟨rfl, hb⟩; refine ⟨_, rfl, ?_⟩; have n0_ := Aside0.mk (below_step (by repeat (first | (with_reducible first | exact HB.out | apply below_alloc | apply pw_below_drewN | apply below_drew1) | exact HB.out)) hb); clear HB; have HB := n0_; clear n0_; (try clear hb); (try clear hb2); (try clear hk); (try clear hi)))
   go_ret2
   exact ⟨by first | rfl | (simp [errW_none, errW_some] <;> rfl) | (simp [*, errW_none, errW_some] <;> rfl), by repeat (first | (with_reducible first | exact HB.out | apply below_alloc | apply pw_below_drewN | apply below_drew1) | exact HB.out)⟩
  ·rw [if_neg c4] at H
   exact absurd H (by simp)
def codec_text.f (l0 : List Int) (a1 : ByteArray) : Option (List Int) := (varint_Text.f a1).bind fun bt103 => (if l0.length + bt103.1.size < 140737488355328 then (some (l0 ++ bytesOf bt103.1)) else (none))
theorem codec_text.calls (P0_ : Nat → Prop) (u9000_ : Value) (l0 : List Int) (a1 : ByteArray) (r : List Int) (w0 w : World) (hB : Below w0.heap.size w0 w) (ho0 : Kd.R (Kd.int .u8) 5 w w0.heap.size P0_ u9000_ l0) (h : codec_text.f l0 a1 = some r) :
  Calls Try.prog 38 #[u9000_, .string a1] w fun e w' => ∃ v0_ : Value, e = .returned (v0_) ∧ Kd.R (Kd.int .u8) 5 w' w0.heap.size (fun k_ => (P0_ k_ ∨ w.heap.size ≤ k_)) v0_ r ∧ Below w0.heap.size w0 w' ∧ Kept w w' (fun k_ => P0_ k_) := by
 have HO0 := Aside0.mk (show Kd.R (Kd.int .u8) 5 w w0.heap.size (fun k_ => (P0_ k_ ∨ w.heap.size ≤ k_)) u9000_ l0 from Kd.R_mono ho0 (fun k_ hk => (.inl hk)))
 have HK := Aside0.mk (Kept.refl w (fun k_ => P0_ k_))
 have HW0 := Aside0.mk hB.size
 have HB := Aside0.mk hB
 clear hB
 have H : ((varint_Text.f a1).bind fun bt103 => (if l0.length + bt103.1.size < 140737488355328 then (some (l0 ++ bytesOf bt103.1)) else (none))) = some r := h
 clear h
 replace H := Option.bind_eq_some_iff.mp H
 obtain ⟨⟨t103, t104⟩, A30, H⟩ := H
 replace H : (if l0.length + t103.size < 140737488355328 then (some (l0 ++ bytesOf t103)) else (none)) = some r := H
 have A3 := Aside0.mk A30
 clear A30
 by_cases c4 : l0.length + t103.size < 140737488355328
 ·rw [if_pos c4] at H
  have LMc4 := Aside0.mk c4
  clear c4
  obtain ⟨y105, hy105⟩ : ∃ y_ : List Int, y_ = (l0 ++ bytesOf t103) := ⟨_, rfl⟩
  replace H : (some y105) = some r := by first | (rw [hy105]; with_reducible exact H) | (have H2_ := (Option.bind_some _ _).symm.trans H; rw [hy105]; with_reducible exact H2_) | (have H2_ := (Option.bind_some _ _).symm.trans H; with_reducible exact H2_) | with_reducible exact H | (rw [hy105]; exact H) | exact H
  have Ny105 := Aside0.mk hy105
  clear hy105
  obtain rfl := Option.some.inj H
  go_enter Try.func38, Try.ntmps38
  go_wp2_with (first | ((with_reducible refine gate_callee (f := 86) rfl ?_); refine goesL_ (some 9) rfl rfl Try.func86 (by kernel_rfl) rfl #[.string a1] rfl (by (try simp only [List.map_toArray, List.map_cons, List.map_nil]); first | done | rfl | (simp only [List.length_drop, List.length_take]; rfl)) ?_; (with_reducible refine (varint_Text.calls a1 t103 t104 _ A3.out).mono ?_); rintro e w5 ⟨rfl, hb⟩; refine ⟨_, rfl, ?_⟩; have n0_ := Aside0.mk (Kd.R_below (by (with_reducible repeat (first | apply Kd.R_alloc | apply Kd.R_drewN | apply Kd.R_drew)); exact HO0.out) hb); have n1_ := Aside0.mk (Kept.below (S := (fun k_ => P0_ k_)) (by repeat (first | (with_reducible first | exact HK.out | apply Kept.alloc | apply Kept.drewN | apply Kept.drew) | exact HK.out)) hb); have n2_ := Aside0.mk (below_step (by repeat (first | (with_reducible first | exact HB.out | apply below_alloc | apply pw_below_drewN | apply below_drew1) | exact HB.out)) hb); clear HO0; clear HK; clear HB; have HO0 := n0_; have HK := n1_; have HB := n2_; clear n0_ n1_ n2_; (try clear hb); (try clear hb2); (try clear hk); (try clear hi)) | (at_builtin; refine append_str_hat (w0 := w0) w0.heap.size rfl (.tmp 12) _ 74 9 5 rfl Try.underlying74 Try.underlying9 info5 u9000_ l0 t103 rfl rfl ?aO ?aB ?aS ?aL ?_; (case aB => exact (by repeat (first | (with_reducible first | exact HB.out | apply below_alloc | apply pw_below_drewN | apply below_drew1) | exact HB.out))); (case aO => exact (Kd.own_of_R (by (with_reducible repeat (first | apply Kd.R_alloc | apply Kd.R_drewN | apply Kd.R_drew)); exact HO0.out))); (case aS => exact (below_size (by repeat (first | (with_reducible first | exact HB.out | apply below_alloc | apply pw_below_drewN | apply below_drew1) | exact HB.out)))); (case aL => have := LMc4.out; omega); intro v106 w6 ho0 hb hg hat; have ho := Kd.R_of_own (h1 := fun _ => rfl) (ok := (fun k_ => (P0_ k_ ∨ w.heap.size ≤ k_))) ho0 (fun k_ hk_ => Or.elim hat (fun h1_ => HO0.out.1 k_ (h1_.symm.trans hk_)) (fun h2_ => (fun k_ hk => (.inr (Nat.le_trans (by first | exact HK.out.1 | exact (show Kept w _ (fun k_ => P0_ k_) from by repeat (first | (with_reducible first | exact HK.out | apply Kept.alloc | apply Kept.drewN | apply Kept.drew) | exact HK.out)).1) hk))) k_ (by obtain ⟨b_, hb_, hl_⟩ := h2_; rw [hb_] at hk_; cases hk_; exact hl_))); clear ho0; rw [← Ny105.out] at ho; change Kd.R (Kd.int .u8) 5 w6 w0.heap.size (fun k_ => (P0_ k_ ∨ w.heap.size ≤ k_)) v106 y105 at ho; have n0_ := Aside0.mk (hb); have n1_ := Aside0.mk (Kept.of_grown (S := (fun k_ => P0_ k_)) hg (by repeat (first | (with_reducible first | exact HK.out | apply Kept.alloc | apply Kept.drewN | apply Kept.drew) | exact HK.out)) (fun k_ e_ => (HO0.out.1 k_ e_))); have n2_ := Aside0.mk (ho); clear HB; clear HK; clear HO0; have HB := n0_; have HK := n1_; have HO107 := n2_; clear n0_ n1_ n2_; clear ho hb hg hat))
  go_ret
  exact ⟨_, by first | rfl | (simp [errW_none, errW_some] <;> rfl) | (simp [*, errW_none, errW_some] <;> rfl), by (with_reducible repeat (first | apply Kd.R_alloc | apply Kd.R_drewN | apply Kd.R_drew)); exact HO107.out, by repeat (first | (with_reducible first | exact HB.out | apply below_alloc | apply pw_below_drewN | apply below_drew1) | exact HB.out), by repeat (first | (with_reducible first | exact HK.out | apply Kept.alloc | apply Kept.drewN | apply Kept.drew) | exact HK.out)⟩
 ·rw [if_neg c4] at H
  exact absurd H (by simp)
def codec_number.l0 : Nat → List Int → List Int → Int → Int → Option (List Int)
 | 0, _, _, _, _ => none
 | k + 1, x0, x7, x8, x9 => if x9 < x8 then (if 0 ≤ x9 then (if x9 < (x7.length : Int) then ((varint_Number.f (rd x7 x9)).bind fun t109 => (if x0.length + t109.size < 140737488355328 then (codec_number.l0 k (x0 ++ bytesOf t109) x7 x8 (wrap64 (x9 + 1))) else (none))) else (none)) else (none)) else (some x0)
def codec_number.f (k : Nat) (l0 : List Int) (l1 : List Int) : Option (List Int) := codec_number.l0 k l0 l1 (l1.length : Int) 0
theorem codec_number.mono_l : ∀ k, (∀ y0 y1 y2 y3, LeO (codec_number.l0 k y0 y1 y2 y3) (codec_number.l0 (k + 1) y0 y1 y2 y3))
 | 0 => fun _ _ _ _ r h => by simp [codec_number.l0] at h
 | k + 1 => by
  have ih0 := codec_number.mono_l k
  ·intro y0 y1 y2 y3
   unfold codec_number.l0
   repeat' first
   | (with_reducible exact ih0 _ _ _ _)
   | (with_reducible exact LeO.refl _)
   | (with_reducible exact LeO.none _)
   | (with_reducible refine LeO.ite ?_ ?_)
   | (with_reducible refine LeO.bind ?_ (fun _ => ?_))
   | exact ih0 _ _ _ _
   | exact LeO.none _
   | refine LeO.ite ?_ ?_
   | refine LeO.bind ?_ (fun _ => ?_)
theorem codec_number.mono : ∀ a0 a1 k, LeO (codec_number.f k a0 a1) (codec_number.f (k + 1) a0 a1) := by
 intro a0 a1 k
 have ih0 := codec_number.mono_l k
 unfold codec_number.f
 repeat' first
   | (with_reducible exact ih0 _ _ _ _)
   | (with_reducible exact LeO.refl _)
   | (with_reducible exact LeO.none _)
   | (with_reducible refine LeO.ite ?_ ?_)
   | (with_reducible refine LeO.bind ?_ (fun _ => ?_))
   | exact ih0 _ _ _ _
   | exact LeO.none _
   | refine LeO.ite ?_ ?_
   | refine LeO.bind ?_ (fun _ => ?_)
theorem codec_number.calls (k : Nat) (P0_ : Nat → Prop) (u9000_ : Value) (l0 : List Int) (A1 : Option Addr) (c1 : Nat) (l1 : List Int) (r : List Int) (w0 w : World) (hB : Below w0.heap.size w0 w) (ho0 : Kd.R (Kd.int .u8) 5 w w0.heap.size P0_ u9000_ l0) (hr1 : ∀ W_, Kept w W_ (fun k_ => P0_ k_) → Kd.C (Kd.int .i64) W_ A1 l1.length l1) (hc1 : l1.length ≤ c1) (h : codec_number.f k l0 l1 = some r) :
  Calls Try.prog 39 #[u9000_, .slice A1 l1.length c1] w fun e w' => ∃ v0_ : Value, e = .returned (v0_) ∧ Kd.R (Kd.int .u8) 5 w' w0.heap.size (fun k_ => (P0_ k_ ∨ w.heap.size ≤ k_)) v0_ r ∧ Below w0.heap.size w0 w' ∧ Kept w w' (fun k_ => P0_ k_) := by
 have HO0 := Aside0.mk (show Kd.R (Kd.int .u8) 5 w w0.heap.size (fun k_ => (P0_ k_ ∨ w.heap.size ≤ k_)) u9000_ l0 from Kd.R_mono ho0 (fun k_ hk => (.inl hk)))
 have HR1 := Aside0.mk hr1
 have HC1 := Aside0.mk hc1
 clear hr1 hc1
 have HK := Aside0.mk (Kept.refl w (fun k_ => P0_ k_))
 have HW0 := Aside0.mk hB.size
 have HB := Aside0.mk hB
 clear hB
 have H : (codec_number.l0 k l0 l1 (l1.length : Int) 0) = some r := h
 clear h
 have H' := Aside0.mk H
 clear H
 go_enter Try.func39, Try.ntmps39
 go_wp2
 go_loopg [0, 9] k (fun kq v0 v9 w' => ∃ (x0_1 : List Int) (x9_1 : Int), v9 = .int .i64 x9_1 ∧ Aside0 (codec_number.l0 kq x0_1 l1 (l1.length : Int) x9_1 = some r) ∧ Aside0 (kq ≤ k) ∧ Aside0 (Kd.R (Kd.int .u8) 5 w' w0.heap.size (fun k_ => (P0_ k_ ∨ w.heap.size ≤ k_)) v0 x0_1) ∧ Aside0 (Kept w w' (fun k_ => P0_ k_)) ∧ Aside0 (Below w0.heap.size w0 w'))
 case atStart => exact ⟨(l0), (0), (by first | rfl | (simp; done) | (simp [*]; done)), H', ⟨Nat.le_refl _⟩, ⟨by (with_reducible repeat (first | apply Kd.R_alloc | apply Kd.R_drewN | apply Kd.R_drew)); exact HO0.out⟩, ⟨by repeat (first | (with_reducible first | exact HK.out | apply Kept.alloc | apply Kept.drewN | apply Kept.drew) | exact HK.out)⟩, ⟨by repeat (first | (with_reducible first | exact HB.out | apply below_alloc | apply pw_below_drewN | apply below_drew1) | exact HB.out)⟩⟩
 case round =>
  clear H'
  try clear c1
  try clear p2
  obtain ⟨x0_1, x9_1, rfl, HA, HK1, HO_0, HK, HB⟩ := hrel
  cases gk with
  | zero => exact absurd HA.out (by simp [codec_number.l0])
  | succ k1 =>
   have H := HA.out
   clear HA
   simp only [codec_number.l0] at H
   by_cases c3 : x9_1 < (l1.length : Int)
   ·rw [if_pos c3] at H
    have c3b0 : decide (x9_1 < (l1.length : Int)) = true := decide_eq_true c3
    clear c3
    by_cases c4 : 0 ≤ x9_1
    ·rw [if_pos c4] at H
     have c4b0 : decide (0 ≤ x9_1) = true := decide_eq_true c4
     clear c4
     by_cases c5 : x9_1 < (l1.length : Int)
     ·rw [if_pos c5] at H
      have c5b0 : decide (x9_1 < (l1.length : Int)) = true := decide_eq_true c5
      clear c5
      replace H := Option.bind_eq_some_iff.mp H
      obtain ⟨t109, A60, H⟩ := H
      replace H : (if x0_1.length + t109.size < 140737488355328 then (codec_number.l0 k1 (x0_1 ++ bytesOf t109) l1 (l1.length : Int) (wrap64 (x9_1 + 1))) else (none)) = some r := H
      have A6 := Aside0.mk A60
      clear A60
      by_cases c7 : x0_1.length + t109.size < 140737488355328
      ·rw [if_pos c7] at H
       have LMc7 := Aside0.mk c7
       clear c7
       obtain ⟨y110, hy110⟩ : ∃ y_ : List Int, y_ = (x0_1 ++ bytesOf t109) := ⟨_, rfl⟩
       replace H : (codec_number.l0 k1 y110 l1 (l1.length : Int) (wrap64 (x9_1 + 1))) = some r := by first | (rw [hy110]; with_reducible exact H) | (have H2_ := (Option.bind_some _ _).symm.trans H; rw [hy110]; with_reducible exact H2_) | (have H2_ := (Option.bind_some _ _).symm.trans H; with_reducible exact H2_) | with_reducible exact H | (rw [hy110]; exact H) | exact H
       have Ny110 := Aside0.mk hy110
       clear hy110
       have H' := Aside0.mk H
       clear H
       have p108 : 0 ≤ (x9_1 : Int) := of_decide_eq_true (by first | (with_reducible assumption) | assumption)
       have q108 : x9_1 < (l1.length : Int) := of_decide_eq_true (by first | (with_reducible assumption) | assumption)
       obtain ⟨ad108, e108, hx108_0⟩ := Kd.at_int (Kd.C_kept_now HR1.out HK.out) x9_1 p108 q108
       cases e108
       replace p108 := eq_true p108
       replace q108 := eq_true q108
       go_wp2_with (first | ((with_reducible refine gate_callee (f := 87) rfl ?_); refine goesL_ (some 15) rfl rfl Try.func87 (by kernel_rfl) rfl #[.int .i64 (rd l1 x9_1)] rfl (by (try simp only [List.map_toArray, List.map_cons, List.map_nil]); first | done | rfl | (simp only [List.length_drop, List.length_take]; rfl)) ?_; (with_reducible refine (varint_Number.calls (rd l1 x9_1) t109 _ A6.out).mono ?_); rintro e w8 ⟨rfl, hb⟩; refine ⟨_, rfl, ?_⟩; have n0_ := Aside0.mk (Kd.R_below (by (with_reducible repeat (first | apply Kd.R_alloc | apply Kd.R_drewN | apply Kd.R_drew)); exact HO_0.out) hb); have n1_ := Aside0.mk (Kept.below (S := (fun k_ => P0_ k_)) (by repeat (first | (with_reducible first | exact HK.out | apply Kept.alloc | apply Kept.drewN | apply Kept.drew) | exact HK.out)) hb); have n2_ := Aside0.mk (below_step (by repeat (first | (with_reducible first | exact HB.out | apply below_alloc | apply pw_below_drewN | apply below_drew1) | exact HB.out)) hb); clear HO_0; clear HK; clear HB; have HO_0 := n0_; have HK := n1_; have HB := n2_; clear n0_ n1_ n2_; (try clear hb); (try clear hb2); (try clear hk); (try clear hi)) | (at_builtin; refine append_str_hat (w0 := w0) w0.heap.size rfl (.tmp 13) _ 74 9 5 rfl Try.underlying74 Try.underlying9 info5 u0 x0_1 t109 rfl rfl ?aO ?aB ?aS ?aL ?_; (case aB => exact (by repeat (first | (with_reducible first | exact HB.out | apply below_alloc | apply pw_below_drewN | apply below_drew1) | exact HB.out))); (case aO => exact (Kd.own_of_R (by (with_reducible repeat (first | apply Kd.R_alloc | apply Kd.R_drewN | apply Kd.R_drew)); exact HO_0.out))); (case aS => exact (below_size (by repeat (first | (with_reducible first | exact HB.out | apply below_alloc | apply pw_below_drewN | apply below_drew1) | exact HB.out)))); (case aL => have := LMc7.out; omega); intro v111 w9 ho0 hb hg hat; have ho := Kd.R_of_own (h1 := fun _ => rfl) (ok := (fun k_ => (P0_ k_ ∨ w.heap.size ≤ k_))) ho0 (fun k_ hk_ => Or.elim hat (fun h1_ => HO_0.out.1 k_ (h1_.symm.trans hk_)) (fun h2_ => (fun k_ hk => (.inr (Nat.le_trans (by first | exact HK.out.1 | exact (show Kept w _ (fun k_ => P0_ k_) from by repeat (first | (with_reducible first | exact HK.out | apply Kept.alloc | apply Kept.drewN | apply Kept.drew) | exact HK.out)).1) hk))) k_ (by obtain ⟨b_, hb_, hl_⟩ := h2_; rw [hb_] at hk_; cases hk_; exact hl_))); clear ho0; rw [← Ny110.out] at ho; change Kd.R (Kd.int .u8) 5 w9 w0.heap.size (fun k_ => (P0_ k_ ∨ w.heap.size ≤ k_)) v111 y110 at ho; have n0_ := Aside0.mk (hb); have n1_ := Aside0.mk (Kept.of_grown (S := (fun k_ => P0_ k_)) hg (by repeat (first | (with_reducible first | exact HK.out | apply Kept.alloc | apply Kept.drewN | apply Kept.drew) | exact HK.out)) (fun k_ e_ => (HO_0.out.1 k_ e_))); have n2_ := Aside0.mk (ho); clear HB; clear HK; clear HO_0; have HB := n0_; have HK := n1_; have HO112 := n2_; clear n0_ n1_ n2_; clear ho hb hg hat))
       go_roundg k1
       case measure => have := HK1.out; omega
       case rel => exact ⟨(y110), (wrap64 (x9_1 + 1)), (by first | rfl | (simp; done) | (simp [*]; done)), H', ⟨by have := HK1.out; omega⟩, ⟨by (with_reducible repeat (first | apply Kd.R_alloc | apply Kd.R_drewN | apply Kd.R_drew)); exact HO112.out⟩, ⟨by repeat (first | (with_reducible first | exact HK.out | apply Kept.alloc | apply Kept.drewN | apply Kept.drew) | exact HK.out)⟩, ⟨by repeat (first | (with_reducible first | exact HB.out | apply below_alloc | apply pw_below_drewN | apply below_drew1) | exact HB.out)⟩⟩
      ·rw [if_neg c7] at H
       exact absurd H (by simp)
     ·rw [if_neg c5] at H
      exact absurd H (by simp)
    ·rw [if_neg c4] at H
     exact absurd H (by simp)
   ·rw [if_neg c3] at H
    have c3b0 : decide (x9_1 < (l1.length : Int)) = false := decide_eq_false c3
    clear c3
    obtain rfl := Option.some.inj H
    go_wp2
    go_ret
    exact ⟨_, by first | rfl | (simp [errW_none, errW_some] <;> rfl) | (simp [*, errW_none, errW_some] <;> rfl), by (with_reducible repeat (first | apply Kd.R_alloc | apply Kd.R_drewN | apply Kd.R_drew)); exact HO_0.out, by repeat (first | (with_reducible first | exact HB.out | apply below_alloc | apply pw_below_drewN | apply below_drew1) | exact HB.out), by repeat (first | (with_reducible first | exact HK.out | apply Kept.alloc | apply Kept.drewN | apply Kept.drew) | exact HK.out)⟩
def NoMark (fr : Nat × Nat) (n : Nat) : Prop := fr = (0, 0) ∨ n ≤ fr.1
theorem NoMark.off {fr : Nat × Nat} {n j : Nat} (h : NoMark fr n) (hj : j < n) : (decide (fr.1 ≤ j) && decide (j < fr.2)) = false := by
 rcases h with rfl | h
 ·simp
 ·simp; omega
theorem NoMark.frozen {w : World} {g j : Nat} {cur : Array Value} {t : TypeId} {fr : Nat × Nat} (hg : w.heap[g]? = some (.cells cur t fr)) (h : NoMark fr cur.size) (hj : j < cur.size) : w.frozen? ⟨g, j, none⟩ = false := by
 obtain ⟨lo, hi⟩ := fr
 have := h.off hj
 simpa [World.frozen?, hg] using this
theorem run_storeCells_m {P : Program} (g o : Nat) (t : TypeId) (fr : Nat × Nat) : ∀ (vs : List Value) (i : Nat) (cur : Array Value) (w : World), w.heap[g]? = some (.cells cur t fr) → NoMark fr cur.size → o + i + vs.length ≤ cur.size → (∀ v ∈ vs, v.oneCell' = true) →
  (storeCells ⟨g, o, none⟩ vs i).run P w = .ok () (w.setRow g (cur.toList.take (o + i) ++ vs ++ cur.toList.drop (o + i + vs.length)).toArray)
 | [], i, cur, w, hg, _, _, _ => by
  simp only [storeCells, List.append_nil, List.length_nil, Nat.add_zero, List.take_append_drop, Array.toArray_toList]
  rw [setRow_self w g cur t fr hg]
  rfl
 | v :: rest, i, cur, w, hg, hm, hl, h1 => by
  have hi : o + i < cur.size := by simp at hl; omega
  have hadd : (⟨g, o, none⟩ : Addr).add i = ⟨g, o + i, none⟩ := by unfold Addr.add; split <;> simp_all
  have hcell : w.cell? ⟨g, o + i, none⟩ = some cur[o + i] := by simp [World.cell?, hg, hi]
  have hfro : w.frozen? ⟨g, o + i, none⟩ = false := hm.frozen hg hi
  have hst : (store ((⟨g, o, none⟩ : Addr).add i) v).run P w = .ok () (w.setRow g (cur.setIfInBounds (o + i) v)) := by
   rw [hadd, run_store P w _ v _ (h1 v (by simp)), hcell]
   simp [hfro, setCell_eq_setRow w g (o + i) cur t fr v hg]
  have ih := run_storeCells_m (P := P) g o t fr rest (i + 1) (cur.setIfInBounds (o + i) v) (w.setRow g (cur.setIfInBounds (o + i) v)) (setRow_heap w g cur _ t _ hg) (by simpa using hm) (by simp at hl ⊢; omega) (fun x hx => h1 x (by simp [hx]))
  simp only [storeCells, Sem.run_bind, hst, Result.andThen_ok, ih, setRow_setRow]
  congr 3
  have e := list_seg_step cur.toList (o + i) v rest (by simp at hl ⊢; omega)
  simpa [Array.toList_setIfInBounds, Nat.add_assoc] using e
def MOwn (w : World) (base : Nat) (e : TypeId) (v : Value) (xs : List Value) : Prop :=
 (v = .slice none 0 0 ∧ xs = []) ∨
 ∃ g cap cur fr, v = .slice (some ⟨g, 0, none⟩) xs.length cap ∧ base ≤ g ∧ w.heap[g]? = some (.cells cur e fr) ∧ NoMark fr cur.size ∧ xs.length ≤ cap ∧ cap ≤ maxLen ∧ cur.size = cap ∧ cur.toList.take xs.length = xs
theorem MOwn.nil (w : World) (base : Nat) (e : TypeId) : MOwn w base e (.slice none 0 0) [] := .inl ⟨rfl, rfl⟩
theorem MOwn.of_own {w : World} {base n : Nat} {e : TypeId} {v : Value} {xs : List Value} (h : w.ownsRow base e 1 v n xs) : MOwn w base e v xs := by
 have hl : xs.length = n := by simpa using h.1
 subst hl
 rcases h.2 with ⟨rfl, h0⟩ | ⟨g, cap, cur, rfl, hb, hg, h1, h2, h3, h4⟩
 ·exact .inl ⟨rfl, List.eq_nil_of_length_eq_zero h0⟩
 ·exact .inr ⟨g, cap, cur, (0, 0), rfl, hb, hg, .inl rfl, h1, h2, by simpa using h3, by simpa using h4⟩
theorem MOwn.kept {w w' : World} {base : Nat} {e : TypeId} {v : Value} {xs : List Value} {row : Option Nat} (h : MOwn w base e v xs) (hg : w.grownBy w' row) (hne : v.ownBlock = none ∨ v.ownBlock ≠ row) : MOwn w' base e v xs := by
 rcases h with h | ⟨g, cap, cur, fr, rfl, hb, hgg, rest⟩
 ·exact .inl h
 ·refine .inr ⟨g, cap, cur, fr, rfl, hb, ?_, rest⟩
  rw [hg.block g (Array.getElem?_eq_some_iff.1 hgg).1 (by simpa [Value.ownBlock] using hne)]
  exact hgg
theorem MOwn.below {w w' : World} {base : Nat} {e : TypeId} {v : Value} {xs : List Value} (h : MOwn w base e v xs) (hb : Below w.heap.size w w') : MOwn w' base e v xs :=
 h.kept (grown_of_below hb none) (by cases v.ownBlock <;> simp)
theorem MOwn.base_le {w : World} {base : Nat} {e : TypeId} {v : Value} {xs : List Value} (h : MOwn w base e v xs) (k : Nat) (hk : v.ownBlock = some k) : base ≤ k := by
 rcases h with ⟨rfl, _⟩ | ⟨g, cap, cur, fr, rfl, hb, _⟩
 ·simp [Value.ownBlock] at hk
 ·have : g = k := by simpa [Value.ownBlock] using hk
  omega
theorem MOwn.cells {w : World} {base : Nat} {e : TypeId} {v : Value} {xs : List Value} (h : MOwn w base e v xs) {g : Nat} (hg : v.ownBlock = some g) : ∀ j u, xs[j]? = some u → w.cell? ((⟨g, 0, none⟩ : Addr).add j) = some u := by
 intro j u hu
 rcases h with ⟨rfl, _⟩ | ⟨g', cap, cur, fr, rfl, _, hgg, _, _, _, _, htake⟩
 ·simp [Value.ownBlock] at hg
 ·simp [Value.ownBlock] at hg
  subst hg
  rw [add_plain, cell_of_row w g' j cur e fr hgg]
  rw [← htake, List.getElem?_take] at hu
  split at hu
  ·simpa using hu
  ·cases hu
theorem MOwn.of_bytes (w : World) (base : Nat) (e : TypeId) (s : ByteArray) (hb : base ≤ w.heap.size) (hs : s.size ≤ maxLen) :
  MOwn (Lib.bytesWorld w e s) base e (.slice (some ⟨w.heap.size, 0, none⟩) s.size (grownCap w s.size 0 e)) (Lib.strCells s) := by
 have hge := grownCap_ge w s.size 0 e
 have hle := grownCap_le_maxLen w s.size 0 e hs
 have hsz : (Lib.bytesCells w e s).size = grownCap w s.size 0 e := by
  simp [Lib.bytesCells]
  show s.size + _ = _
  omega
 refine .inr ⟨w.heap.size, grownCap w s.size 0 e, Lib.bytesCells w e s, _, by rw [Lib.strCells_length], hb, Lib.bytesWorld_at_new w e s, .inr (Nat.le_refl _), by rw [Lib.strCells_length]; exact hge, hle, hsz, ?_⟩
 have h1 : (Lib.bytesCells w e s).toList = Lib.strCells s ++ List.replicate (grownCap w s.size 0 e - s.size) (.int .u8 0) := by
  simp [Lib.bytesCells, Lib.strCells]
 rw [h1]
 exact List.take_left
section
variable {P : Program} (w : World)
theorem run_append_m_string (base : Nat) (t u ty e : TypeId) (i : TypeInfo) (ht : P.underlying t = some (.slice e)) (hu : P.underlying u = some .string) (hi : P.info? e = some i) (hz : i.zero = some (.int .u8 0))
  (hsize : i.size = 1) (hby : i.bytes = 1)
  (v : Value) (xs : List Value) (hown : MOwn w base e v xs) (s : ByteArray)
  (hbytes : xs.length + s.size ≤ 140737488355328) (hbase : base ≤ w.heap.size) :
  ∃ v' w', (Builtin.append_ #[t, u] ty #[v, .string s]).run P w = .ok v' w' ∧ MOwn w' base e v' (xs ++ Lib.strCells s) ∧ w.grownBy w' v.ownBlock := by
 rcases hown with ⟨rfl, rfl⟩ | ⟨g, cap, cur, fr, rfl, hbg, hg, hfr, hnc, hcm, hcs, htake⟩
 ·obtain ⟨v', w', hr, ho, hgr, _⟩ := Lib.run_append_own_string (P := P) w base t u ty e i ht hu hi hz hsize hby (.slice none 0 0) 0 [] (World.ownsRow_nil w base e 1) s (by simp only [maxLen]; simp at hbytes; omega) (by simpa using hbytes) hbase
  exact ⟨v', w', hr, MOwn.of_own ho, hgr⟩
 ·by_cases hroom : xs.length + s.size ≤ cap
  ·have hf := Lib.run_firstCells_string (P := P) w 1 s
   have hst := run_storeCells_m (P := P) g xs.length e fr (Lib.strCells s) 0 cur w hg hfr (by rw [Lib.strCells_length]; omega) (Lib.strCells_oneCell s)
   simp only [Nat.add_zero] at hst
   refine ⟨.slice (some ⟨g, 0, none⟩) (xs.length + s.size) cap, w.setRow g (cur.toList.take xs.length ++ Lib.strCells s ++ cur.toList.drop (xs.length + (Lib.strCells s).length)).toArray, ?_, ?_, ?_⟩
   ·simp [Builtin.append_, run_underlying ht, run_underlying hu, sizeOf, typeInfo, hi, hsize, Builtin.lenOf, hroom, hf, Addr.add_lit, hst]
   ·have hsz : (cur.toList.take xs.length ++ Lib.strCells s ++ cur.toList.drop (xs.length + (Lib.strCells s).length)).toArray.size = cur.size := by
     simp only [List.size_toArray, List.length_append, List.length_take, List.length_drop, Array.length_toList, Lib.strCells_length]
     omega
    refine .inr ⟨g, cap, _, fr, by rw [List.length_append, Lib.strCells_length], hbg, setRow_heap w g cur _ e fr hg, by rw [hsz]; exact hfr, by rw [List.length_append, Lib.strCells_length]; exact hroom, hcm, by rw [hsz]; exact hcs, ?_⟩
    rw [htake]
    exact List.take_left
   ·exact ⟨rfl, rfl, rfl, by simp, fun k _ hk => setRow_other w g k _ (fun e => hk (by simp [Value.ownBlock, e]))⟩
  ·have holds : ∀ j u, xs[j]? = some u → w.cell? ((⟨g, 0, none⟩ : Addr).add j) = some u := MOwn.cells (base := base) (.inr ⟨g, cap, cur, fr, rfl, hbg, hg, hfr, hnc, hcm, hcs, htake⟩) (g := g) rfl
   have hr := Lib.run_append_grow_string (P := P) w t u ty e i (.int .u8 0) ht hu hi hz ⟨g, 0, none⟩ xs.length cap xs (by rw [hsize, Nat.mul_one]) holds s (by omega) (by omega) (by rw [hby]; exact growslice_fits (by omega) (by omega))
   refine ⟨_, _, hr, ?_, ⟨rfl, rfl, rfl, by simp, fun k hk _ => heap_alloc_old w.drew _ hk⟩⟩
   have hge := grownCap_ge w (xs.length + s.size) cap e
   have hz1 : (Value.int IntKind.u8 0).cells.size = 1 := rfl
   refine .inr ⟨w.heap.size, _, _, (0, 0), by rw [List.length_append, Lib.strCells_length], hbase, heap_alloc_new w.drew _, .inl rfl, by rw [List.length_append, Lib.strCells_length]; exact hge, grownCap_le_maxLen w _ _ e (by simp only [maxLen]; omega), ?_, ?_⟩
   ·simp only [Array.size_append, List.size_toArray, size_zeroCells, hz1, Lib.strCells_length]
    omega
   ·simp only [Array.toList_append, List.append_assoc]
    rw [← List.append_assoc]
    exact List.take_left
variable {ops : Array Oper} {rest : List Oper} {o : Oper} {a : Act} {Q : Exit → Act → World → Prop}
theorem wpList_append_m_string (hgd : o.guard = none) (sl x : Operand) (t u : TypeId)
  (ho : o.op = .call { callee := .builtin .append, args := #[sl, x], argTypes := #[t, u] })
  (base : Nat) (e : TypeId) (i : TypeInfo) (ht : P.underlying t = some (.slice e)) (hu : P.underlying u = some .string) (hi : P.info? e = some i) (hz : i.zero = some (.int .u8 0))
  (hsize : i.size = 1) (hby : i.bytes = 1)
  (v : Value) (xs : List Value) (hs : a.eval sl = v) (hown : MOwn w base e v xs) (s : ByteArray) (hx : a.eval x = .string s)
  (hbytes : xs.length + s.size ≤ 140737488355328) (hbase : base ≤ w.heap.size)
  (h : ∀ v' w', MOwn w' base e v' (xs ++ Lib.strCells s) → w.grownBy w' v.ownBlock → wpList P ops Q rest (a.put o.dst v') w') : wpList P ops Q (o :: rest) a w := by
 refine wpList_plain hgd fun K hK => ?_
 obtain ⟨v', w', hr, h2, h3⟩ := run_append_m_string (P := P) w base t u o.type e i ht hu hi hz hsize hby v xs hown s hbytes hbase
 unfold Oper.wp execOp
 simp only [ho, resolve, invoke, builtin, Sem.run_bind, Sem.run_pure, Result.andThen_ok, List.map_toArray, List.map_cons, List.map_nil, hs, hx, hr]
 exact hK _ _ (h v' w' h2 h3)
end
theorem MOwn.to_string {P : Program} {w : World} {base : Nat} {src dst e e' : TypeId} {v : Value} {xs : List Int} (hs : P.underlying src = some (.slice e')) (he : P.underlying e' = some (.int .u8)) (hd : P.underlying dst = some .string)
  (h : MOwn w base e v (nums .u8 xs)) : (convert src dst v).run P w = .ok (.string (strOfNums xs)) w := by
 have hl : (nums .u8 xs).length = xs.length := nums_length _ _
 rcases h with ⟨rfl, h0⟩ | ⟨g, cap, cur, fr, rfl, hb, hg, hfr, hnc, hcm, hcs, htake⟩
 ·obtain rfl : xs = [] := by cases xs with | nil => rfl | cons x xs => simp [nums] at h0
  exact run_convert_bytes_nil w src e' hs he 0 0 dst hd
 ·rw [hl]
  refine run_convert_bytes_arg w src e' hs he g 0 xs.length cap xs rfl (fun i hi => ?_) dst hd
  have hc := MOwn.cells (base := base) (e := e) (v := .slice (some ⟨g, 0, none⟩) (nums .u8 xs).length cap) (.inr ⟨g, cap, cur, fr, rfl, hb, hg, hfr, hnc, hcm, hcs, htake⟩) (g := g) rfl i (.int .u8 (xs.getD i 0)) (by simp [nums, List.getElem?_eq_getElem (show i < xs.length by omega), List.getD_eq_getElem?_getD])
  have ha : (⟨g, 0, none⟩ : Addr).add i = ⟨g, 0 + i, none⟩ := by unfold Addr.add; split <;> simp_all
  rwa [ha] at hc
theorem strCells_nums (s : ByteArray) : Lib.strCells s = nums .u8 (bytesOf s) := by simp [Lib.strCells, nums, bytesOf]
theorem MOwn.at_ {w : World} {base : Nat} {e : TypeId} {v : Value} {xs : List Int} (h : MOwn w base e v (nums .u8 xs)) (i : Nat) (hi : i < xs.length) :
  ∃ g cap, v = .slice (some ⟨g, 0, none⟩) xs.length cap ∧ base ≤ g ∧ w.cell? ⟨g, i, none⟩ = some (.int .u8 (xs.getD i 0)) ∧ w.frozen? ⟨g, i, none⟩ = false := by
 have hl : (nums .u8 xs).length = xs.length := nums_length _ _
 have hcell := fun g => h.cells (g := g)
 rcases h with ⟨rfl, h0⟩ | ⟨g, cap, cur, fr, rfl, hb, hg, hfr, hnc, hcm, hcs, htake⟩
 ·rw [h0] at hl; simp at hl; omega
 ·have hc := hcell g rfl i (.int .u8 (xs.getD i 0)) (by simp [nums, List.getElem?_eq_getElem hi, List.getD_eq_getElem?_getD])
  rw [add_plain] at hc
  exact ⟨g, cap, by rw [hl], hb, hc, hfr.frozen hg (by omega)⟩
theorem MOwn.set_ {w : World} {base g cap : Nat} {e : TypeId} {n : Nat} {xs : List Int} (h : MOwn w base e (.slice (some ⟨g, 0, none⟩) n cap) (nums .u8 xs)) (i : Nat) (hi : i < xs.length) (x : Int) :
  MOwn (w.setCell ⟨g, i, none⟩ (.int .u8 x)) base e (.slice (some ⟨g, 0, none⟩) n cap) (nums .u8 (xs.set i x)) := by
 have hl : (nums .u8 xs).length = xs.length := nums_length _ _
 have hl2 : (nums .u8 (xs.set i x)).length = xs.length := by rw [nums_length, List.length_set]
 rcases h with ⟨h0, _⟩ | ⟨g', cap', cur, fr, he, hb, hg, hfr, hnc, hcm, hcs, htake⟩
 ·simp at h0
 ·simp only [Value.slice.injEq, Option.some.injEq, Addr.mk.injEq, and_true] at he
  obtain ⟨rfl, rfl, rfl⟩ := he
  refine .inr ⟨g, cap, cur.setIfInBounds i (.int .u8 x), fr, by rw [hl, hl2], hb, ?_, by simpa using hfr, by omega, hcm, by simpa using hcs, ?_⟩
  ·rw [setCell_eq_setRow w g i cur e fr _ hg]
   exact setRow_heap w g cur _ e fr hg
  ·rw [hl2, Array.toList_setIfInBounds, List.take_set]
   rw [hl] at htake
   rw [htake]
   simp [nums, List.map_set]
def listO {α : Type} (T : α → Option (ByteArray × Int)) : List α → List Int → Option (ByteArray × Int)
 | [], acc => some (strOfNums acc, 0)
 | x :: l, acc => (T x).bind fun r => if r.2 = 0 then (if acc.length + r.1.size ≤ 140737488355328 then listO T l (acc ++ bytesOf r.1) else none) else some (⟨#[]⟩, r.2)
theorem rd_at (l : List Int) (i : Nat) (h : i < l.length) : rd l (i : Int) = l[i] := by simp [rd, h]
theorem appended_m (xs : List Int) (s : ByteArray) : nums .u8 xs ++ Lib.strCells s = nums .u8 (xs ++ bytesOf s) := by rw [strCells_nums, nums_append]
theorem infoB : (Try.prog.info? 5).map (fun i => (i.zero, i.size, i.bytes)) = some (some (.int .u8 0), 1, 1) := by kernel_rfl
theorem digL_length (f : Nat) : ∀ u, (digL f u).length ≤ f := by
 induction f with
 | zero => intro u; simp [digL]
 | succ f ih =>
  intro u
  rw [digL]
  split
  ·simp
  ·have := ih (u / 128)
   simp only [List.length_cons]
   omega
theorem numB_size (n : Int) : (numB n).size ≤ 10 := by
 unfold numB
 rw [strOfNums_size, ints, List.length_map]
 exact digL_length 10 _
def varint_Numbers_1.f (a0 : Int) : Option (ByteArray × Int) := (varint_Number.f a0).bind fun t101 => (some (t101, 0))
theorem varint_Numbers_1.calls (a0 : Int) (r1 : ByteArray) (r2 : Int) (w : World) (h : varint_Numbers_1.f a0 = some (r1, r2)) :
  Calls Try.prog 106 #[.int .i64 a0] w fun e w' => e = .returned (.tuple #[.string r1, .int .i64 r2]) ∧ Below w.heap.size w w' := by
 have HB := Aside0.mk (Below.refl w.heap.size w)
 have H : ((varint_Number.f a0).bind fun t101 => (some (t101, 0))) = some (r1, r2) := h
 clear h
 replace H := Option.bind_eq_some_iff.mp H
 obtain ⟨t101, A20, H⟩ := H
 replace H : (some (t101, 0)) = some (r1, r2) := H
 have A2 := Aside0.mk A20
 clear A20
 simp only [Option.some.injEq, Prod.mk.injEq] at H
 obtain ⟨rfl, rfl⟩ := H
 go_enter Try.func106, Try.ntmps106
 go_wp2_with (first | ((with_reducible refine gate_callee (f := 87) rfl ?_); refine goesL_ (some 5) rfl rfl Try.func87 (by kernel_rfl) rfl #[.int .i64 a0] rfl (by (try simp only [List.map_toArray, List.map_cons, List.map_nil]); first | done | rfl | (simp only [List.length_drop, List.length_take]; rfl)) ?_; (with_reducible refine (varint_Number.calls a0 t101 _ A2.out).mono ?_); rintro e w3 ⟨rfl, hb⟩; refine ⟨_, rfl, ?_⟩; have n0_ := Aside0.mk (below_step (by repeat (first | (with_reducible first | exact HB.out | apply below_alloc | apply pw_below_drewN | apply below_drew1) | exact HB.out)) hb); clear HB; have HB := n0_; clear n0_; (try clear hb); (try clear hb2); (try clear hk); (try clear hi)))
 go_ret2
 exact ⟨by first | rfl | (simp [errW_none, errW_some] <;> rfl) | (simp [*, errW_none, errW_some] <;> rfl), by repeat (first | (with_reducible first | exact HB.out | apply below_alloc | apply pw_below_drewN | apply below_drew1) | exact HB.out)⟩
theorem numberO_calls (x : Int) (s : ByteArray) (e2 : Int) (w : World) (h : (varint_Number.f x).map (fun t => (t, (0 : Int))) = some (s, e2)) :
  Calls Try.prog 106 #[.int .i64 x] w fun e w' => e = .returned (.tuple #[.string s, .int .i64 e2]) ∧ Below w.heap.size w w' := by
 rw [Option.map_eq_some_iff] at h
 obtain ⟨t, ht, h⟩ := h
 simp only [Prod.mk.injEq] at h
 obtain ⟨rfl, rfl⟩ := h
 exact varint_Numbers_1.calls x t 0 w (by unfold varint_Numbers_1.f; rw [bind_of ht])
theorem list_ints (k : Nat) (A : Option Addr) (c : Nat) (l : List Int) (t0 : ByteArray) (r1 : ByteArray) (r2 : Int) (w : World) (hr : Kd.C (Kd.int .i64) w A l.length l) (hc : l.length ≤ c) (hl : l.length ≤ 256) (ht : varint_Number.f (l.length : Int) = some t0) (h0 : t0.size ≤ 140737488351232) (h : listO (fun x => (varint_Number.f x).map (fun t => (t, (0 : Int)))) l (bytesOf t0) = some (r1, r2)) :
  Calls Try.prog 105 #[.slice A l.length c, .func (Fn.func 106) #[] #[]] w fun e w' => e = .returned (.tuple #[.string r1, .int .i64 r2]) ∧ Below w.heap.size w w' := by
 have HT := Aside0.mk ht
 have HL := Aside0.mk h
 have HR := Aside0.mk hr
 have hcv := fun W : World => Lib.run_convert_string_bytes (P := Try.prog) W 9 74 5 t0 Try.underlying9 Try.underlying74 Try.underlying5
 clear ht h hr
 obtain ⟨i0, hi, hz0, hz1, hz2⟩ := info_parts infoB
 go_enter Try.func105, Try.ntmps105
 go_wp2_with (first | (go_at_call 87; refine (varint_Number.calls (l.length : Int) t0 _ HT.out).mono ?_; rintro e w1 ⟨rfl, hb⟩; have HB1 := Aside0.mk hb; have HM1 := Aside0.mk (MOwn.of_bytes w1 w.heap.size 5 t0 HB1.out.size (by simp only [maxLen]; omega)); have HB2 := Aside0.mk (bytes_below HB1.out HB1.out.size 5 t0)))
 have hcv0 := Aside0.mk hcv
 clear hcv
 go_loopg [6, 20] l.length (fun kq vb vi wr => ∃ (i : Nat) (xs : List Int), vi = .int .i64 i ∧ Aside0 (i + kq = l.length) ∧ Aside0 (listO (fun x => (varint_Number.f x).map (fun t => (t, (0 : Int)))) (l.drop i) xs = some (r1, r2)) ∧ Aside0 (MOwn wr w.heap.size 5 vb (nums .u8 xs)) ∧ Aside0 (Below w.heap.size w wr))
 case atStart => exact ⟨0, bytesOf t0, rfl, ⟨by simp⟩, ⟨by rw [List.drop_zero]; exact HL.out⟩, ⟨by rw [← strCells_nums]; exact HM1.out⟩, HB2⟩
 case round =>
  clear HB2 HM1
  obtain ⟨i, xs, rfl, HK, HO, HM, HB⟩ := hrel
  have hil : i ≤ l.length := by have := HK.out; omega
  by_cases hlt : i < l.length
  ·obtain ⟨ad, ea, hcell⟩ := Kd.at_int HR.out (i : Int) (by omega) (by omega)
   cases ea
   replace hcell := (HB.out.cell (World.block_lt_of_cell? w _ hcell)).trans hcell
   rw [Int.toNat_natCast] at hcell
   obtain ⟨x, hx⟩ : ∃ x, x = rd l (i : Int) := ⟨_, rfl⟩
   rw [← hx] at hcell
   have ho := HO.out
   rw [List.drop_eq_getElem_cons hlt, listO, Option.bind_eq_some_iff] at ho
   rw [rd_at l i hlt] at hx
   rw [← hx] at ho
   obtain ⟨⟨s, e2⟩, hs, ho⟩ := ho
   have HS := Aside0.mk hs
   have HO2 := Aside0.mk ho
   clear hs ho hx HO
   by_cases he : e2 = 0
   ·subst he
    have ho := HO2.out
    rw [if_pos rfl] at ho
    by_cases hfit : xs.length + s.size ≤ 140737488355328
    ·rw [if_pos hfit] at ho
     have HO3 := Aside0.mk ho
     have HF := Aside0.mk hfit
     clear ho HO2 hfit
     go_wp2_with (first
      | (go_at_call 106; refine (numberO_calls x s 0 _ HS.out).mono ?_; rintro e w2 ⟨rfl, hb⟩; have HB3 := Aside0.mk (Below.trans HB.out (hb.mono HB.out.size)); have HM3 := Aside0.mk (HM.out.below hb); clear hb HB HM)
      | ((with_reducible refine gate_dst (N := 35) rfl ?_); refine wpList_append_m_string _ rfl (.tmp 33) (.tmp 34) 74 9 rfl w.heap.size 5 i0 Try.underlying74 Try.underlying9 hi hz0 hz1 hz2 _ (nums .u8 xs) rfl HM3.out s rfl (by rw [nums_length]; exact HF.out) HB3.out.size ?_; intro v1 w3 hm1 hg1; rw [appended_m] at hm1; have HM4 := Aside0.mk hm1; have HB4 := Aside0.mk (HB3.out.grown hg1 HB3.out.size (fun k hk => HM3.out.base_le k hk)); clear hm1 hg1))
     go_roundg (l.length - (i + 1))
     case measure => have := HK.out; omega
     case rel => exact ⟨i + 1, xs ++ bytesOf s, by go_num, ⟨by omega⟩, HO3, HM4, HB4⟩
    ·rw [if_neg hfit] at ho
     cases ho
   ·have ho := HO2.out
    rw [if_neg he] at ho
    simp only [Option.some.injEq, Prod.mk.injEq] at ho
    obtain ⟨rfl, rfl⟩ := ho
    go_wp2_with (go_at_call 106; refine (numberO_calls x s e2 _ HS.out).mono ?_; rintro e w2 ⟨rfl, hb⟩; have HB3 := Aside0.mk (Below.trans HB.out (hb.mono HB.out.size)); clear hb)
    go_ret2
    exact ⟨rfl, HB3.out⟩
  ·obtain rfl : i = l.length := by omega
   have ho := HO.out
   rw [List.drop_length, listO] at ho
   simp only [Option.some.injEq, Prod.mk.injEq] at ho
   obtain ⟨hs, rfl⟩ := ho
   have hcs := MOwn.to_string (P := Try.prog) Try.underlying74 Try.underlying5 Try.underlying9 HM.out
   rw [hs] at hcs
   clear hs
   go_wp2
   go_ret2
   exact ⟨rfl, HB.out⟩
def varint_Numbers.f (l : List Int) : Option (ByteArray × Int) :=
 if 256 < l.length then some (⟨#[]⟩, 4) else (varint_Number.f (l.length : Int)).bind fun t => listO (fun x => (varint_Number.f x).map (fun t => (t, (0 : Int)))) l (bytesOf t)
set_option maxHeartbeats 1000000 in
theorem varint_Numbers.calls (A : Option Addr) (c : Nat) (l : List Int) (r1 : ByteArray) (r2 : Int) (w : World) (hr : Kd.C (Kd.int .i64) w A l.length l) (hc : l.length ≤ c) (h : varint_Numbers.f l = some (r1, r2)) :
  Calls Try.prog 88 #[.slice A l.length c] w fun e w' => e = .returned (.tuple #[.string r1, .int .i64 r2]) ∧ Below w.heap.size w w' := by
 have hbig : 256 < l.length → Calls Try.prog 105 #[.slice A l.length c, .func (Fn.func 106) #[] #[]] w fun e w' => e = .returned (.tuple #[.string ⟨#[]⟩, .int .i64 4]) ∧ Below w.heap.size w w' := by
  intro hb
  go_enter Try.func105, Try.ntmps105
  go_wp2
  go_ret2
  exact ⟨rfl, Below.refl _ _⟩
 have HC : Aside0 (Calls Try.prog 105 #[.slice A l.length c, .func (Fn.func 106) #[] #[]] w fun e w' => e = .returned (.tuple #[.string r1, .int .i64 r2]) ∧ Below w.heap.size w w') := by
  unfold varint_Numbers.f at h
  by_cases hb : 256 < l.length
  ·rw [if_pos hb] at h
   simp only [Option.some.injEq, Prod.mk.injEq] at h
   obtain ⟨rfl, rfl⟩ := h
   exact ⟨hbig hb⟩
  ·rw [if_neg hb, Option.bind_eq_some_iff] at h
   obtain ⟨t, ht, h⟩ := h
   have hz : t.size ≤ 140737488351232 := by
    unfold varint_Number.f at ht
    split at ht
    ·obtain rfl := Option.some.inj ht
     have := numB_size (l.length : Int)
     omega
    ·cases ht
   exact ⟨list_ints 0 A c l t r1 r2 w hr hc (by omega) ht hz h⟩
 clear hbig h hr
 go_enter Try.func88, Try.ntmps88
 go_wp2_with (go_at_call 105; refine HC.out.mono ?_; rintro e w1 ⟨rfl, hb⟩; have HB := Aside0.mk hb; clear hb)
 go_ret2
 exact ⟨rfl, HB.out⟩
def codec_numbers.f (l0 : List Int) (l1 : List Int) : Option (List Int) := (varint_Numbers.f l1).bind fun bt113 => (if l0.length + bt113.1.size < 140737488355328 then (some (l0 ++ bytesOf bt113.1)) else (none))
theorem codec_numbers.calls (P0_ : Nat → Prop) (u9000_ : Value) (l0 : List Int) (A1 : Option Addr) (c1 : Nat) (l1 : List Int) (r : List Int) (w0 w : World) (hB : Below w0.heap.size w0 w) (ho0 : Kd.R (Kd.int .u8) 5 w w0.heap.size P0_ u9000_ l0) (hr1 : ∀ W_, Kept w W_ (fun k_ => P0_ k_) → Kd.C (Kd.int .i64) W_ A1 l1.length l1) (hc1 : l1.length ≤ c1) (h : codec_numbers.f l0 l1 = some r) :
  Calls Try.prog 40 #[u9000_, .slice A1 l1.length c1] w fun e w' => ∃ v0_ : Value, e = .returned (v0_) ∧ Kd.R (Kd.int .u8) 5 w' w0.heap.size (fun k_ => (P0_ k_ ∨ w.heap.size ≤ k_)) v0_ r ∧ Below w0.heap.size w0 w' ∧ Kept w w' (fun k_ => P0_ k_) := by
 have HO0 := Aside0.mk (show Kd.R (Kd.int .u8) 5 w w0.heap.size (fun k_ => (P0_ k_ ∨ w.heap.size ≤ k_)) u9000_ l0 from Kd.R_mono ho0 (fun k_ hk => (.inl hk)))
 have HR1 := Aside0.mk hr1
 have HC1 := Aside0.mk hc1
 clear hr1 hc1
 have HK := Aside0.mk (Kept.refl w (fun k_ => P0_ k_))
 have HW0 := Aside0.mk hB.size
 have HB := Aside0.mk hB
 clear hB
 have H : ((varint_Numbers.f l1).bind fun bt113 => (if l0.length + bt113.1.size < 140737488355328 then (some (l0 ++ bytesOf bt113.1)) else (none))) = some r := h
 clear h
 replace H := Option.bind_eq_some_iff.mp H
 obtain ⟨⟨t113, t114⟩, A30, H⟩ := H
 replace H : (if l0.length + t113.size < 140737488355328 then (some (l0 ++ bytesOf t113)) else (none)) = some r := H
 have A3 := Aside0.mk A30
 clear A30
 by_cases c4 : l0.length + t113.size < 140737488355328
 ·rw [if_pos c4] at H
  have LMc4 := Aside0.mk c4
  clear c4
  obtain ⟨y115, hy115⟩ : ∃ y_ : List Int, y_ = (l0 ++ bytesOf t113) := ⟨_, rfl⟩
  replace H : (some y115) = some r := by first | (rw [hy115]; with_reducible exact H) | (have H2_ := (Option.bind_some _ _).symm.trans H; rw [hy115]; with_reducible exact H2_) | (have H2_ := (Option.bind_some _ _).symm.trans H; with_reducible exact H2_) | with_reducible exact H | (rw [hy115]; exact H) | exact H
  have Ny115 := Aside0.mk hy115
  clear hy115
  obtain rfl := Option.some.inj H
  go_enter Try.func40, Try.ntmps40
  go_wp2_with (first | ((with_reducible refine gate_callee (f := 88) rfl ?_); refine goesL_ (some 9) rfl rfl Try.func88 (by kernel_rfl) rfl #[.slice A1 l1.length c1] rfl (by (try simp only [List.map_toArray, List.map_cons, List.map_nil]); first | done | rfl | (simp only [List.length_drop, List.length_take]; rfl)) ?_; (with_reducible refine (varint_Numbers.calls _ _ l1 t113 t114 _ ?side1 ?side2 A3.out).mono ?_); (case side1 => exact Kd.C_kept_now HR1.out (by repeat (first | (with_reducible first | exact HK.out | apply Kept.alloc | apply Kept.drewN | apply Kept.drew) | exact HK.out))); (case side2 => exact HC1.out); rintro e w5 ⟨rfl, hb⟩; refine ⟨_, rfl, ?_⟩; have n0_ := Aside0.mk (Kd.R_below (by (with_reducible repeat (first | apply Kd.R_alloc | apply Kd.R_drewN | apply Kd.R_drew)); exact HO0.out) hb); have n1_ := Aside0.mk (Kept.below (S := (fun k_ => P0_ k_)) (by repeat (first | (with_reducible first | exact HK.out | apply Kept.alloc | apply Kept.drewN | apply Kept.drew) | exact HK.out)) hb); have n2_ := Aside0.mk (below_step (by repeat (first | (with_reducible first | exact HB.out | apply below_alloc | apply pw_below_drewN | apply below_drew1) | exact HB.out)) hb); clear HO0; clear HK; clear HB; have HO0 := n0_; have HK := n1_; have HB := n2_; clear n0_ n1_ n2_; (try clear hb); (try clear hb2); (try clear hk); (try clear hi)) | (at_builtin; refine append_str_hat (w0 := w0) w0.heap.size rfl (.tmp 12) _ 74 9 5 rfl Try.underlying74 Try.underlying9 info5 u9000_ l0 t113 rfl rfl ?aO ?aB ?aS ?aL ?_; (case aB => exact (by repeat (first | (with_reducible first | exact HB.out | apply below_alloc | apply pw_below_drewN | apply below_drew1) | exact HB.out))); (case aO => exact (Kd.own_of_R (by (with_reducible repeat (first | apply Kd.R_alloc | apply Kd.R_drewN | apply Kd.R_drew)); exact HO0.out))); (case aS => exact (below_size (by repeat (first | (with_reducible first | exact HB.out | apply below_alloc | apply pw_below_drewN | apply below_drew1) | exact HB.out)))); (case aL => have := LMc4.out; omega); intro v116 w6 ho0 hb hg hat; have ho := Kd.R_of_own (h1 := fun _ => rfl) (ok := (fun k_ => (P0_ k_ ∨ w.heap.size ≤ k_))) ho0 (fun k_ hk_ => Or.elim hat (fun h1_ => HO0.out.1 k_ (h1_.symm.trans hk_)) (fun h2_ => (fun k_ hk => (.inr (Nat.le_trans (by first | exact HK.out.1 | exact (show Kept w _ (fun k_ => P0_ k_) from by repeat (first | (with_reducible first | exact HK.out | apply Kept.alloc | apply Kept.drewN | apply Kept.drew) | exact HK.out)).1) hk))) k_ (by obtain ⟨b_, hb_, hl_⟩ := h2_; rw [hb_] at hk_; cases hk_; exact hl_))); clear ho0; rw [← Ny115.out] at ho; change Kd.R (Kd.int .u8) 5 w6 w0.heap.size (fun k_ => (P0_ k_ ∨ w.heap.size ≤ k_)) v116 y115 at ho; have n0_ := Aside0.mk (hb); have n1_ := Aside0.mk (Kept.of_grown (S := (fun k_ => P0_ k_)) hg (by repeat (first | (with_reducible first | exact HK.out | apply Kept.alloc | apply Kept.drewN | apply Kept.drew) | exact HK.out)) (fun k_ e_ => (HO0.out.1 k_ e_))); have n2_ := Aside0.mk (ho); clear HB; clear HK; clear HO0; have HB := n0_; have HK := n1_; have HO117 := n2_; clear n0_ n1_ n2_; clear ho hb hg hat))
  go_ret
  exact ⟨_, by first | rfl | (simp [errW_none, errW_some] <;> rfl) | (simp [*, errW_none, errW_some] <;> rfl), by (with_reducible repeat (first | apply Kd.R_alloc | apply Kd.R_drewN | apply Kd.R_drew)); exact HO117.out, by repeat (first | (with_reducible first | exact HB.out | apply below_alloc | apply pw_below_drewN | apply below_drew1) | exact HB.out), by repeat (first | (with_reducible first | exact HK.out | apply Kept.alloc | apply Kept.drewN | apply Kept.drew) | exact HK.out)⟩
 ·rw [if_neg c4] at H
  exact absurd H (by simp)
def codec_laid.f (a0 : Bool) (l1 : List Int) : Option (ByteArray × Int) := if a0 = true then (some (strOfNums l1, 0)) else (some ((⟨#[]⟩ : ByteArray), 2))
theorem codec_laid.calls (a0 : Bool) (A1 : Option Addr) (c1 : Nat) (l1 : List Int) (r1 : ByteArray) (r2 : Int) (w : World) (hr1 : Kd.C (Kd.int .u8) w A1 l1.length l1) (hc1 : l1.length ≤ c1) (h : codec_laid.f a0 l1 = some (r1, r2)) :
  Calls Try.prog 41 #[.bool a0, .slice A1 l1.length c1] w fun e w' => e = .returned (.tuple #[.string r1, .int .i64 r2]) ∧ Drawn0 w w' := by
 have HR1 := Aside0.mk hr1
 have HC1 := Aside0.mk hc1
 clear hr1 hc1
 have H : (if a0 = true then (some (strOfNums l1, 0)) else (some ((⟨#[]⟩ : ByteArray), 2))) = some (r1, r2) := h
 clear h
 by_cases c3 : a0 = true
 ·subst c3
  have H1 : (some (strOfNums l1, 0)) = some (r1, r2) := by rw [if_pos rfl] at H; exact H
  clear H
  have H := H1
  clear H1
  simp only [Option.some.injEq, Prod.mk.injEq] at H
  obtain ⟨rfl, rfl⟩ := H
  have hcv4 := Kd.C_string (P := Try.prog) (A := A1) (c := c1) Try.underlying74 Try.underlying5 Try.underlying9 HR1.out
  go_enter Try.func41, Try.ntmps41
  go_wp2
  go_ret2
  exact ⟨by first | rfl | (simp; done) | (simp [*]; done), by repeat (first | exact Drawn0.refl _ | apply Drawn0.step)⟩
 ·replace c3 := Bool.eq_false_iff.mpr c3
  subst c3
  have H1 : (some ((⟨#[]⟩ : ByteArray), 2)) = some (r1, r2) := by rw [if_neg (show ¬ (false = true) by decide)] at H; exact H
  clear H
  have H := H1
  clear H1
  simp only [Option.some.injEq, Prod.mk.injEq] at H
  obtain ⟨rfl, rfl⟩ := H
  go_enter Try.func41, Try.ntmps41
  go_wp2
  go_ret2
  exact ⟨by first | rfl | (simp; done) | (simp [*]; done), by repeat (first | exact Drawn0.refl _ | apply Drawn0.step)⟩
def codec_PutCmd.f (k : Nat) (a0_0 : Int) (a0_1 : Int) (a0_2 : ByteArray) (a0_3 : Int) (l0_4 : List Int) (a0_5 : Int) : Option (ByteArray × Int) := (codec_number.f k ([] : List Int) (([a0_0, a0_1] : List Int))).bind fun t145 => ((codec_text.f t145 a0_2).bind fun t148 => ((codec_number.f k t148 (([a0_3] : List Int))).bind fun t154 => ((codec_numbers.f t154 l0_4).bind fun t157 => ((codec_cmd.f k a0_0 a0_1 a0_2 a0_3 l0_4 a0_5).bind fun t160 => ((codec_number.f k t157 (([a0_5] : List Int))).bind fun t164 => ((codec_laid.f t160 t164).bind fun bt167 => (some (bt167.1, bt167.2))))))))
theorem codec_PutCmd.mono : ∀ a0 a1 a2 a3 a4 a5 k, LeO (codec_PutCmd.f k a0 a1 a2 a3 a4 a5) (codec_PutCmd.f (k + 1) a0 a1 a2 a3 a4 a5) := by
 intro a0 a1 a2 a3 a4 a5 k
 unfold codec_PutCmd.f
 repeat' first
   | (with_reducible exact codec_cmd.mono _ _ _ _ _ _ _)
   | (with_reducible exact codec_number.mono _ _ _)
   | (with_reducible exact LeO.refl _)
   | (with_reducible exact LeO.none _)
   | (with_reducible refine LeO.ite ?_ ?_)
   | (with_reducible refine LeO.bind ?_ (fun _ => ?_))
   | exact codec_cmd.mono _ _ _ _ _ _ _
   | exact codec_number.mono _ _ _
   | exact LeO.none _
   | refine LeO.ite ?_ ?_
   | refine LeO.bind ?_ (fun _ => ?_)
def codec_PutCmd.T1 : Bool × List (List Nat × List Nat) := (true, [([], []), ([0], [0]), ([], []), ([2], [2]), ([1, 3], [1, 3]), ([4], [4]), ([], []), ([6], [6]), ([5, 7, 5], [5, 7]), ([8, 8, 0, 1, 2, 3, 4, 5, 6, 7, 8], [8])])
def codec_PutCmd.B1 : List Nat := [0, 1, 0, 4, 15, 31, 0, 64, 255, 511]
theorem codec_PutCmd.tab1 : rtab .any (opsOf Try.f7 1) = codec_PutCmd.T1 := by kernel_rfl
theorem codec_PutCmd.bits1 : waitsOk codec_PutCmd.T1.2 codec_PutCmd.B1 = true := by kernel_rfl
def codec_PutCmd.T2 : Bool × List (List Nat × List Nat) := (true, [([], []), ([], []), ([1], [1]), ([2], [2]), ([0, 3], [0, 3]), ([], []), ([5], [5]), ([4, 6, 4], [4, 6]), ([7, 7, 0, 1, 2, 3, 4, 5, 6, 7], [0, 7])])
def codec_PutCmd.B2 : List Nat := [0, 0, 2, 6, 15, 0, 32, 127, 255]
theorem codec_PutCmd.tab2 : rtab .any (opsOf Try.f7 2) = codec_PutCmd.T2 := by kernel_rfl
theorem codec_PutCmd.bits2 : waitsOk codec_PutCmd.T2.2 codec_PutCmd.B2 = true := by kernel_rfl
def codec_PutCmd.T3 : Bool × List (List Nat × List Nat) := (true, [([], []), ([0], [0]), ([], []), ([], []), ([3], [3]), ([4], [4]), ([2, 5, 1], [2, 5]), ([1, 6, 6], [1, 6]), ([7], [7]), ([7], [7]), ([8, 7, 0, 1, 2, 3, 4, 5, 6, 7, 8, 9], [8]), ([9, 10, 0, 1, 2, 3, 4, 5, 6, 7, 8, 9, 10], [9])])
def codec_PutCmd.B3 : List Nat := [0, 1, 0, 0, 8, 24, 63, 127, 255, 255, 1023, 2047]
theorem codec_PutCmd.tab3 : rtab .any (opsOf Try.f7 3) = codec_PutCmd.T3 := by kernel_rfl
theorem codec_PutCmd.bits3 : waitsOk codec_PutCmd.T3.2 codec_PutCmd.B3 = true := by kernel_rfl
theorem codec_PutCmd.calls (k : Nat) (a0_0 : Int) (a0_1 : Int) (a0_2 : ByteArray) (a0_3 : Int) (A0_4 : Option Addr) (c0_4 : Nat) (l0_4 : List Int) (a0_5 : Int) (r1 : ByteArray) (r2 : Int) (w : World) (hr0_4 : Kd.C (Kd.int .i64) w A0_4 l0_4.length l0_4) (hc0_4 : l0_4.length ≤ c0_4) (h : codec_PutCmd.f k a0_0 a0_1 a0_2 a0_3 l0_4 a0_5 = some (r1, r2)) :
  Calls Try.prog 7 #[.agg #[.int .i64 a0_0, .int .i64 a0_1, .string a0_2, .int .i64 a0_3, .slice A0_4 l0_4.length c0_4, .int .i64 a0_5]] w fun e w' => e = .returned (.tuple #[.string r1, .int .i64 r2]) ∧ Below w.heap.size w w' := by
 have hu24 := Try.underlying24
 have HR0_4 := Aside0.mk hr0_4
 have HC0_4 := Aside0.mk hc0_4
 clear hr0_4 hc0_4
 have HB := Aside0.mk (Below.refl w.heap.size w)
 have H : ((codec_number.f k ([] : List Int) (([a0_0, a0_1] : List Int))).bind fun t145 => ((codec_text.f t145 a0_2).bind fun t148 => ((codec_number.f k t148 (([a0_3] : List Int))).bind fun t154 => ((codec_numbers.f t154 l0_4).bind fun t157 => ((codec_cmd.f k a0_0 a0_1 a0_2 a0_3 l0_4 a0_5).bind fun t160 => ((codec_number.f k t157 (([a0_5] : List Int))).bind fun t164 => ((codec_laid.f t160 t164).bind fun bt167 => (some (bt167.1, bt167.2))))))))) = some (r1, r2) := h
 clear h
 obtain ⟨y142, hy142⟩ : ∃ y_ : List Int, y_ = (([a0_0, a0_1] : List Int)) := ⟨_, rfl⟩
 replace H : ((codec_number.f k ([] : List Int) y142).bind fun t145 => ((codec_text.f t145 a0_2).bind fun t148 => ((codec_number.f k t148 (([a0_3] : List Int))).bind fun t154 => ((codec_numbers.f t154 l0_4).bind fun t157 => ((codec_cmd.f k a0_0 a0_1 a0_2 a0_3 l0_4 a0_5).bind fun t160 => ((codec_number.f k t157 (([a0_5] : List Int))).bind fun t164 => ((codec_laid.f t160 t164).bind fun bt167 => (some (bt167.1, bt167.2))))))))) = some (r1, r2) := by first | (rw [hy142]; with_reducible exact H) | (have H2_ := (Option.bind_some _ _).symm.trans H; rw [hy142]; with_reducible exact H2_) | (have H2_ := (Option.bind_some _ _).symm.trans H; with_reducible exact H2_) | with_reducible exact H | (rw [hy142]; exact H) | exact H
 have Ny142 := Aside0.mk hy142
 clear hy142
 replace H := Option.bind_eq_some_iff.mp H
 obtain ⟨t145, A20, H⟩ := H
 replace H : ((codec_text.f t145 a0_2).bind fun t148 => ((codec_number.f k t148 (([a0_3] : List Int))).bind fun t154 => ((codec_numbers.f t154 l0_4).bind fun t157 => ((codec_cmd.f k a0_0 a0_1 a0_2 a0_3 l0_4 a0_5).bind fun t160 => ((codec_number.f k t157 (([a0_5] : List Int))).bind fun t164 => ((codec_laid.f t160 t164).bind fun bt167 => (some (bt167.1, bt167.2)))))))) = some (r1, r2) := H
 have A2 := Aside0.mk A20
 clear A20
 replace H := Option.bind_eq_some_iff.mp H
 obtain ⟨t148, A30, H⟩ := H
 replace H : ((codec_number.f k t148 (([a0_3] : List Int))).bind fun t154 => ((codec_numbers.f t154 l0_4).bind fun t157 => ((codec_cmd.f k a0_0 a0_1 a0_2 a0_3 l0_4 a0_5).bind fun t160 => ((codec_number.f k t157 (([a0_5] : List Int))).bind fun t164 => ((codec_laid.f t160 t164).bind fun bt167 => (some (bt167.1, bt167.2))))))) = some (r1, r2) := H
 have A3 := Aside0.mk A30
 clear A30
 obtain ⟨y151, hy151⟩ : ∃ y_ : List Int, y_ = (([a0_3] : List Int)) := ⟨_, rfl⟩
 replace H : ((codec_number.f k t148 y151).bind fun t154 => ((codec_numbers.f t154 l0_4).bind fun t157 => ((codec_cmd.f k a0_0 a0_1 a0_2 a0_3 l0_4 a0_5).bind fun t160 => ((codec_number.f k t157 (([a0_5] : List Int))).bind fun t164 => ((codec_laid.f t160 t164).bind fun bt167 => (some (bt167.1, bt167.2))))))) = some (r1, r2) := by first | (rw [hy151]; with_reducible exact H) | (have H2_ := (Option.bind_some _ _).symm.trans H; rw [hy151]; with_reducible exact H2_) | (have H2_ := (Option.bind_some _ _).symm.trans H; with_reducible exact H2_) | with_reducible exact H | (rw [hy151]; exact H) | exact H
 have Ny151 := Aside0.mk hy151
 clear hy151
 replace H := Option.bind_eq_some_iff.mp H
 obtain ⟨t154, A40, H⟩ := H
 replace H : ((codec_numbers.f t154 l0_4).bind fun t157 => ((codec_cmd.f k a0_0 a0_1 a0_2 a0_3 l0_4 a0_5).bind fun t160 => ((codec_number.f k t157 (([a0_5] : List Int))).bind fun t164 => ((codec_laid.f t160 t164).bind fun bt167 => (some (bt167.1, bt167.2)))))) = some (r1, r2) := H
 have A4 := Aside0.mk A40
 clear A40
 replace H := Option.bind_eq_some_iff.mp H
 obtain ⟨t157, A50, H⟩ := H
 replace H : ((codec_cmd.f k a0_0 a0_1 a0_2 a0_3 l0_4 a0_5).bind fun t160 => ((codec_number.f k t157 (([a0_5] : List Int))).bind fun t164 => ((codec_laid.f t160 t164).bind fun bt167 => (some (bt167.1, bt167.2))))) = some (r1, r2) := H
 have A5 := Aside0.mk A50
 clear A50
 replace H := Option.bind_eq_some_iff.mp H
 obtain ⟨t160, A60, H⟩ := H
 replace H : ((codec_number.f k t157 (([a0_5] : List Int))).bind fun t164 => ((codec_laid.f t160 t164).bind fun bt167 => (some (bt167.1, bt167.2)))) = some (r1, r2) := H
 have A6 := Aside0.mk A60
 clear A60
 obtain ⟨y161, hy161⟩ : ∃ y_ : List Int, y_ = (([a0_5] : List Int)) := ⟨_, rfl⟩
 replace H : ((codec_number.f k t157 y161).bind fun t164 => ((codec_laid.f t160 t164).bind fun bt167 => (some (bt167.1, bt167.2)))) = some (r1, r2) := by first | (rw [hy161]; with_reducible exact H) | (have H2_ := (Option.bind_some _ _).symm.trans H; rw [hy161]; with_reducible exact H2_) | (have H2_ := (Option.bind_some _ _).symm.trans H; with_reducible exact H2_) | with_reducible exact H | (rw [hy161]; exact H) | exact H
 have Ny161 := Aside0.mk hy161
 clear hy161
 replace H := Option.bind_eq_some_iff.mp H
 obtain ⟨t164, A70, H⟩ := H
 replace H : ((codec_laid.f t160 t164).bind fun bt167 => (some (bt167.1, bt167.2))) = some (r1, r2) := H
 have A7 := Aside0.mk A70
 clear A70
 replace H := Option.bind_eq_some_iff.mp H
 obtain ⟨⟨t167, t168⟩, A80, H⟩ := H
 replace H : (some (t167, t168)) = some (r1, r2) := H
 have A8 := Aside0.mk A80
 clear A80
 simp only [Option.some.injEq, Prod.mk.injEq] at H
 obtain ⟨rfl, rfl⟩ := H
 go_enter Try.func7, Try.ntmps7
 try go_wp2_with (first | ((with_reducible refine gate_dst (N := 1) rfl ?_); refine box_event ?hg (N := 1) ?hd (cs := #[.int .i64 a0_0, .int .i64 a0_1, .string a0_2, .int .i64 a0_3, .slice A0_4 l0_4.length c0_4, .int .i64 a0_5]) (t := 24) ?hr ?_; (case hd => rfl); (case hg => rfl); (case hr => first | (go_simp; done) | (go_simp; rfl)); intro gb141 hg w9 hbox hb; have n0_ := Aside0.mk (below_step (by repeat (first | (with_reducible first | exact HB.out | apply below_alloc | apply pw_below_drewN | apply below_drew1) | exact HB.out)) hb); have n1_ := Aside0.mk (hbox); have n2_ := Aside0.mk ((by rw [hg]; exact (below_size (by repeat (first | (with_reducible first | exact HB.out | apply below_alloc | apply pw_below_drewN | apply below_drew1) | exact HB.out))) : w.heap.size ≤ gb141)); have n3_ := Aside0.mk ((by rw [hg]; exact (below_size (by repeat (first | (with_reducible first | exact HB.out | apply below_alloc | apply pw_below_drewN | apply below_drew1) | exact HB.out))) : w.heap.size ≤ gb141)); clear HB; have HB := n0_; have BK141 := n1_; have GW141 := n2_; have GE141 := n3_; clear n0_ n1_ n2_ n3_; clear hb hbox hg))
 have n0_ := Aside0.mk (blk_drew BK141.out)
 have n1_ := Aside0.mk (below_drew1 HB.out)
 clear BK141
 clear HB
 have BK141 := n0_
 have HB := n1_
 clear n0_ n1_
 refine start_ (n := 10) (S := fun w' => w'.cell? ⟨gb141, 0, none⟩ = some (.int .i64 a0_0) ∧ w'.cell? ⟨gb141, 1, none⟩ = some (.int .i64 a0_1) ∧ w'.cell? ⟨gb141, 2, none⟩ = some (.string a0_2) ∧ w'.cell? ⟨gb141, 3, none⟩ = some (.int .i64 a0_3) ∧ w'.cell? ⟨gb141, 4, none⟩ = some (.slice A0_4 l0_4.length c0_4) ∧ w'.cell? ⟨gb141, 5, none⟩ = some (.int .i64 a0_5)) (ds := []) #[ZF,ZF,ZF,ZF,ZF,ZF,ZF,ZF,ZF,ZF] (by kernel_rfl) rfl rfl ⟨(blk_cell BK141.out 0).trans rfl, (blk_cell BK141.out 1).trans rfl, (blk_cell BK141.out 2).trans rfl, (blk_cell BK141.out 3).trans rfl, (blk_cell BK141.out 4).trans rfl, (blk_cell BK141.out 5).trans rfl⟩ (fun hHeld => ?_); refine with_tabW codec_PutCmd.tab1 codec_PutCmd.bits1 (fun HT_ HW_ => ?_)
 generalize w9.drew = w10 at BK141 HB hHeld ⊢
 refine pure_ (i := 0) (N := some 5) (v := ?_) (a' := ?_) #[ZT,ZF,ZF,ZF,ZF,ZF,ZF,ZF,ZF,ZF] rfl rfl (any_of HT_.out (by kernel_rfl)) (fun _ _ _ h => h) (Or.inl ⟨by rfl, ?_⟩) ?_ ?_
 rotate_left
 ·intro w'
  go_simp
  with_reducible rfl
 rotate_left
 ·simp only [Act.put, List.setIfInBounds_toArray, List.set_cons_zero, List.set_cons_succ, i64_w, i32_w]
  rfl
 refine pure_ (i := 2) (N := some 7) (v := ?_) (a' := ?_) #[ZT,ZF,ZT,ZF,ZF,ZF,ZF,ZF,ZF,ZF] rfl rfl (any_of HT_.out (by kernel_rfl)) (fun _ _ _ h => h) (Or.inl ⟨by rfl, ?_⟩) ?_ ?_
 rotate_left
 ·intro w'
  go_simp
  with_reducible rfl
 rotate_left
 ·simp only [Act.put, List.setIfInBounds_toArray, List.set_cons_zero, List.set_cons_succ, i64_w, i32_w]
  rfl
 refine pure_ (i := 6) (N := some 11) (v := ?_) (a' := ?_) #[ZT,ZF,ZT,ZF,ZF,ZF,ZT,ZF,ZF,ZF] rfl rfl (any_of HT_.out (by kernel_rfl)) (fun _ _ _ h => h) (Or.inl ⟨by rfl, ?_⟩) ?_ ?_
 rotate_left
 ·intro w'
  go_simp
  with_reducible rfl
 rotate_left
 ·simp only [Act.put, List.setIfInBounds_toArray, List.set_cons_zero, List.set_cons_succ, i64_w, i32_w]
  rfl
 refine take_ (i := 1) (N := some 6) (v := ?_) (a' := ?_) #[ZT,ZT,ZT,ZF,ZF,ZF,ZT,ZF,ZF,ZF] rfl rfl (take_ofW HT_.out HW_.out (by kernel_rfl)) (fun _ _ _ h => h) (Or.inl ⟨by rfl, ?_⟩) hHeld ?_ ?_
 rotate_left
 ·rintro w' ⟨s0, s1, s2, s3, s4, s5⟩
  go_simp
  with_reducible rfl
 rotate_left
 ·simp only [Act.put, List.setIfInBounds_toArray, List.set_cons_zero, List.set_cons_succ, i64_w, i32_w]
  rfl
 refine take_ (i := 3) (N := some 8) (v := ?_) (a' := ?_) #[ZT,ZT,ZT,ZT,ZF,ZF,ZT,ZF,ZF,ZF] rfl rfl (take_ofW HT_.out HW_.out (by kernel_rfl)) (fun _ _ _ h => h) (Or.inl ⟨by rfl, ?_⟩) hHeld ?_ ?_
 rotate_left
 ·rintro w' ⟨s0, s1, s2, s3, s4, s5⟩
  go_simp
  with_reducible rfl
 rotate_left
 ·simp only [Act.put, List.setIfInBounds_toArray, List.set_cons_zero, List.set_cons_succ, i64_w, i32_w]
  rfl
 refine take_ (i := 7) (N := some 12) (v := ?_) (a' := ?_) #[ZT,ZT,ZT,ZT,ZF,ZF,ZT,ZT,ZF,ZF] rfl rfl (take_ofW HT_.out HW_.out (by kernel_rfl)) (fun _ _ _ h => h) (Or.inl ⟨by rfl, ?_⟩) hHeld ?_ ?_
 rotate_left
 ·rintro w' ⟨s0, s1, s2, s3, s4, s5⟩
  go_simp
  with_reducible rfl
 rotate_left
 ·simp only [Act.put, List.setIfInBounds_toArray, List.set_cons_zero, List.set_cons_succ, i64_w, i32_w]
  rfl
 refine one_ (i := 4) (N := some 9) #[ZT,ZT,ZT,ZT,ZT,ZF,ZT,ZT,ZF,ZF] rfl rfl (one_of HT_.out (by kernel_rfl)) (by decide) (fun K hK => ?_)
 refine Kd.R_lit_step (Kd.int .i64) _ 3 ?hg (N := 9) ?hd (xs := ([a0_0, a0_1] : List Int)) (inner := [.int .i64 a0_0, .int .i64 a0_1]) (ok := fun _ => True) (okp := fun _ => True) ?hr ?hp (fun _ hk => hk) trivial (Below.refl _ _) (Nat.le_refl _) (by simp) ?_; (case hd => rfl); (case hg => rfl); (case hr => first | (go_simp; done) | (go_simp; rfl)); (case hp => exact (Reps.one (show Kd.M (Kd.int .i64) _ _ _ a0_0 [.int .i64 a0_0] from rfl) (Reps.one (show Kd.M (Kd.int .i64) _ _ _ a0_1 [.int .i64 a0_1] from rfl) (Reps.none _ _))))
 intro v143 w11 ho12 hb hg_ hnew_
 clear hg_ hnew_
 (first | rw [← Ny142.out] at ho12 | (simp only [Int.reduceToNat] at ho12; rw [← Ny142.out] at ho12))
 have n0_ := Aside0.mk (Kd.R_lower ho12 (below_size (by repeat (first | (with_reducible first | exact HB.out | apply below_alloc | apply pw_below_drewN | apply below_drew1 | refine below_set ?_ GE141.out) | exact HB.out))))
 have n1_ := Aside0.mk (blk_below (g := gb141) (o := .cells #[.int .i64 a0_0, .int .i64 a0_1, .string a0_2, .int .i64 a0_3, .slice A0_4 l0_4.length c0_4, .int .i64 a0_5] 24 (0, 0)) (by (with_reducible repeat (first | refine blk_drewN ?_ _ | refine blk_drew ?_ | refine blk_alloc ?_ _)); exact BK141.out) hb)
 have n2_ := Aside0.mk (below_step (by repeat (first | (with_reducible first | exact HB.out | apply below_alloc | apply pw_below_drewN | apply below_drew1 | refine below_set ?_ GE141.out) | exact HB.out)) hb)
 clear BK141
 clear HB
 have HO144 := n0_
 have BK141 := n1_
 have HB := n2_
 clear n0_ n1_ n2_
 clear hb ho12
 obtain ⟨Ao13, co13, eo13⟩ := Kd.R_slice HO144.out
 (first | subst eo13 | (injection eo13 with f1_ f2_ f3_; have f4_ := f1_.symm; have f5_ := f3_.symm; clear f1_ f2_ f3_; subst f4_; subst f5_))
 refine hK.out _ _ ⟨(blk_cell BK141.out 0).trans rfl, (blk_cell BK141.out 1).trans rfl, (blk_cell BK141.out 2).trans rfl, (blk_cell BK141.out 3).trans rfl, (blk_cell BK141.out 4).trans rfl, (blk_cell BK141.out 5).trans rfl⟩ (fun hHeld => ?_)
 clear hK K
 refine norm_ (a' := ?_) ?_ ?_
 rotate_left
 ·show Act.put _ (some 9) _ = _
  simp only [Act.put, List.setIfInBounds_toArray, List.set_cons_zero, List.set_cons_succ, i64_w, i32_w]
  rfl
 refine one_ (i := 5) (N := some 10) #[ZT,ZT,ZT,ZT,ZT,ZT,ZT,ZT,ZF,ZF] rfl rfl (one_of HT_.out (by kernel_rfl)) (by decide) (fun K hK => ?_)
 refine goes_ Try.func39 (by kernel_rfl) rfl #[.slice none 0 0, .slice Ao13 y142.length co13] (by rfl) rfl rfl (by (try simp only [List.map_toArray, List.map_cons, List.map_nil]); first | done | rfl | (simp only [List.length_drop, List.length_take]; rfl)) ?_
 refine (codec_number.calls k (fun k_ => some k_ = (.slice none 0 0 : Value).ownBlock) (.slice none 0 0) ([] : List Int) _ _ y142 t145 w _ ?side1 ?side2 ?side3 ?side4 A2.out).mono ?_
 (case side1 => repeat (first | (with_reducible first | exact HB.out | apply below_alloc | apply pw_below_drewN | apply below_drew1 | refine below_set ?_ GE141.out) | exact HB.out))
 (case side2 => exact Kd.R_nil _ _ _ _ _)
 (case side3 => exact Kd.C_kept_own (HO144.out) (fun k_ hk_ hs_ => (fun e_ => by simp [Value.ownBlock] at e_) hs_))
 (case side4 => exact (Kd.R_reads' HO144.out).2.1)
 rintro e w14 ⟨v146, rfl, ho0, hb, hkp⟩
 refine ⟨_, rfl, ?_⟩
 have n0_ := Aside0.mk (blk_kept (by (with_reducible repeat (first | refine blk_drewN ?_ _ | refine blk_drew ?_ | refine blk_alloc ?_ _)); exact BK141.out) hkp (fun hs_ => (fun e_ => by simp [Value.ownBlock] at e_) hs_))
 have n1_ := Aside0.mk (Kd.R_mono (ok' := fun k_ => True) (Kd.R_keptB (HO144.out) hkp (fun k_ hk_ hs_ => (fun e_ => by simp [Value.ownBlock] at e_) hs_)) (fun k_ hk_ => trivial))
 have n2_ := Aside0.mk (Kd.R_mono (ok' := fun k_ => True) ho0 (fun k_ hk_ => trivial))
 have n3_ := Aside0.mk (hb)
 clear BK141
 clear HO144
 clear HB
 have BK141 := n0_
 have HO144 := n1_
 have HO147 := n2_
 have HB := n3_
 clear n0_ n1_ n2_ n3_
 (try clear hb)
 (try clear hkp)
 (try clear ho0)
 obtain ⟨Ao15, co15, eo15⟩ := Kd.R_slice HO147.out
 (first | subst eo15 | (injection eo15 with f1_ f2_ f3_; have f4_ := f1_.symm; have f5_ := f3_.symm; clear f1_ f2_ f3_; subst f4_; subst f5_))
 refine hK.out _ _ ⟨(blk_cell BK141.out 0).trans rfl, (blk_cell BK141.out 1).trans rfl, (blk_cell BK141.out 2).trans rfl, (blk_cell BK141.out 3).trans rfl, (blk_cell BK141.out 4).trans rfl, (blk_cell BK141.out 5).trans rfl⟩ (fun hHeld => ?_)
 clear hK K
 refine norm_ (a' := ?_) ?_ ?_
 rotate_left
 ·show Act.put _ (some 10) _ = _
  simp only [Act.put, List.setIfInBounds_toArray, List.set_cons_zero, List.set_cons_succ, i64_w, i32_w]
  rfl
 refine one_ (i := 8) (N := some 13) #[ZT,ZT,ZT,ZT,ZT,ZT,ZT,ZT,ZT,ZF] rfl rfl (one_of HT_.out (by kernel_rfl)) (by decide) (fun K hK => ?_)
 refine goes_ Try.func38 (by kernel_rfl) rfl #[.slice Ao15 t145.length co15, .string a0_2] (by rfl) rfl rfl (by (try simp only [List.map_toArray, List.map_cons, List.map_nil]); first | done | rfl | (simp only [List.length_drop, List.length_take]; rfl)) ?_
 with_reducible refine (codec_text.calls (fun k_ => some k_ = (.slice Ao15 t145.length co15 : Value).ownBlock) (.slice Ao15 t145.length co15) t145 a0_2 t148 w _ ?side1 ?side2 A3.out).mono ?_
 (case side1 => repeat (first | (with_reducible first | exact HB.out | apply below_alloc | apply pw_below_drewN | apply below_drew1 | refine below_set ?_ GE141.out) | exact HB.out))
 (case side2 => exact Kd.R_tight rfl HO147.out)
 rintro e w16 ⟨v149, rfl, ho0, hb, hkp⟩
 refine ⟨_, rfl, ?_⟩
 have n0_ := Aside0.mk (blk_kept (by (with_reducible repeat (first | refine blk_drewN ?_ _ | refine blk_drew ?_ | refine blk_alloc ?_ _)); exact BK141.out) hkp (fun hs_ => (fun e_ => (Kd.R_ne HO147.out BK141.out (by decide)) e_) hs_))
 have n1_ := Aside0.mk (Kd.R_mono (ok' := fun k_ => True) (Kd.R_keptB ((Kd.R_apart' HO144.out (Kd.R_typed HO147.out) (by decide))) hkp (fun k_ hk_ hs_ => (hk_.2) hs_)) (fun k_ hk_ => trivial))
 have n2_ := Aside0.mk (Kd.R_mono (ok' := fun k_ => True) ho0 (fun k_ hk_ => trivial))
 have n3_ := Aside0.mk (hb)
 clear BK141
 clear HO144
 clear HB
 clear HO147
 have BK141 := n0_
 have HO144 := n1_
 have HO150 := n2_
 have HB := n3_
 clear n0_ n1_ n2_ n3_
 (try clear hb)
 (try clear hkp)
 (try clear ho0)
 refine hK.out _ _ ⟨(blk_cell BK141.out 0).trans rfl, (blk_cell BK141.out 1).trans rfl, (blk_cell BK141.out 2).trans rfl, (blk_cell BK141.out 3).trans rfl, (blk_cell BK141.out 4).trans rfl, (blk_cell BK141.out 5).trans rfl⟩ (fun hHeld => ?_)
 clear hK K
 refine norm_ (a' := ?_) ?_ ?_
 rotate_left
 ·show Act.put _ (some 13) _ = _
  simp only [Act.put, List.setIfInBounds_toArray, List.set_cons_zero, List.set_cons_succ, i64_w, i32_w]
  rfl
 refine pure_ (i := 9) (N := some 4) (v := ?_) (a' := ?_) #[ZT,ZT,ZT,ZT,ZT,ZT,ZT,ZT,ZT,ZT] rfl rfl (any_of HT_.out (by kernel_rfl)) (fun _ _ _ h => h) (Or.inl ⟨by rfl, ?_⟩) ?_ ?_
 rotate_left
 ·intro w'
  go_simp
  with_reducible rfl
 rotate_left
 ·simp only [Act.put, List.setIfInBounds_toArray, List.set_cons_zero, List.set_cons_succ, i64_w, i32_w]
  rfl
 refine done_ (done_of HT_.out (by kernel_rfl)) ?_
 try go_wp2
 have n0_ := Aside0.mk (Kd.R_drew HO144.out)
 have n1_ := Aside0.mk (Kd.R_drew HO150.out)
 have n2_ := Aside0.mk (blk_drew BK141.out)
 have n3_ := Aside0.mk (below_drew1 HB.out)
 clear HO144
 clear HO150
 clear BK141
 clear HB
 have HO144 := n0_
 have HO150 := n1_
 have BK141 := n2_
 have HB := n3_
 clear n0_ n1_ n2_ n3_
 refine start_ (n := 9) (S := fun w' => w'.cell? ⟨gb141, 0, none⟩ = some (.int .i64 a0_0) ∧ w'.cell? ⟨gb141, 1, none⟩ = some (.int .i64 a0_1) ∧ w'.cell? ⟨gb141, 2, none⟩ = some (.string a0_2) ∧ w'.cell? ⟨gb141, 3, none⟩ = some (.int .i64 a0_3) ∧ w'.cell? ⟨gb141, 4, none⟩ = some (.slice A0_4 l0_4.length c0_4) ∧ w'.cell? ⟨gb141, 5, none⟩ = some (.int .i64 a0_5)) (ds := []) #[ZF,ZF,ZF,ZF,ZF,ZF,ZF,ZF,ZF] (by kernel_rfl) rfl rfl ⟨(blk_cell BK141.out 0).trans rfl, (blk_cell BK141.out 1).trans rfl, (blk_cell BK141.out 2).trans rfl, (blk_cell BK141.out 3).trans rfl, (blk_cell BK141.out 4).trans rfl, (blk_cell BK141.out 5).trans rfl⟩ (fun hHeld => ?_); refine with_tabW codec_PutCmd.tab2 codec_PutCmd.bits2 (fun HT_ HW_ => ?_)
 generalize w16.drew = w17 at HO144 HO150 BK141 HB hHeld ⊢
 refine pure_ (i := 0) (N := some 14) (v := ?_) (a' := ?_) #[ZT,ZF,ZF,ZF,ZF,ZF,ZF,ZF,ZF] rfl rfl (any_of HT_.out (by kernel_rfl)) (fun _ _ _ h => h) (Or.inl ⟨by rfl, ?_⟩) ?_ ?_
 rotate_left
 ·intro w'
  go_simp
  with_reducible rfl
 rotate_left
 ·simp only [Act.put, List.setIfInBounds_toArray, List.set_cons_zero, List.set_cons_succ, i64_w, i32_w]
  rfl
 refine pure_ (i := 1) (N := some 15) (v := ?_) (a' := ?_) #[ZT,ZT,ZF,ZF,ZF,ZF,ZF,ZF,ZF] rfl rfl (any_of HT_.out (by kernel_rfl)) (fun _ _ _ h => h) (Or.inl ⟨by rfl, ?_⟩) ?_ ?_
 rotate_left
 ·intro w'
  go_simp
  with_reducible rfl
 rotate_left
 ·simp only [Act.put, List.setIfInBounds_toArray, List.set_cons_zero, List.set_cons_succ, i64_w, i32_w]
  rfl
 refine pure_ (i := 5) (N := some 19) (v := ?_) (a' := ?_) #[ZT,ZT,ZF,ZF,ZF,ZT,ZF,ZF,ZF] rfl rfl (any_of HT_.out (by kernel_rfl)) (fun _ _ _ h => h) (Or.inl ⟨by rfl, ?_⟩) ?_ ?_
 rotate_left
 ·intro w'
  go_simp
  with_reducible rfl
 rotate_left
 ·simp only [Act.put, List.setIfInBounds_toArray, List.set_cons_zero, List.set_cons_succ, i64_w, i32_w]
  rfl
 refine take_ (i := 2) (N := some 16) (v := ?_) (a' := ?_) #[ZT,ZT,ZT,ZF,ZF,ZT,ZF,ZF,ZF] rfl rfl (take_ofW HT_.out HW_.out (by kernel_rfl)) (fun _ _ _ h => h) (Or.inl ⟨by rfl, ?_⟩) hHeld ?_ ?_
 rotate_left
 ·rintro w' ⟨s0, s1, s2, s3, s4, s5⟩
  go_simp
  with_reducible rfl
 rotate_left
 ·simp only [Act.put, List.setIfInBounds_toArray, List.set_cons_zero, List.set_cons_succ, i64_w, i32_w]
  rfl
 refine take_ (i := 6) (N := some 20) (v := ?_) (a' := ?_) #[ZT,ZT,ZT,ZF,ZF,ZT,ZT,ZF,ZF] rfl rfl (take_ofW HT_.out HW_.out (by kernel_rfl)) (fun _ _ _ h => h) (Or.inl ⟨by rfl, ?_⟩) hHeld ?_ ?_
 rotate_left
 ·rintro w' ⟨s0, s1, s2, s3, s4, s5⟩
  go_simp
  with_reducible rfl
 rotate_left
 ·simp only [Act.put, List.setIfInBounds_toArray, List.set_cons_zero, List.set_cons_succ, i64_w, i32_w]
  rfl
 refine one_ (i := 3) (N := some 17) #[ZT,ZT,ZT,ZT,ZF,ZT,ZT,ZF,ZF] rfl rfl (one_of HT_.out (by kernel_rfl)) (by decide) (fun K hK => ?_)
 refine Kd.R_lit_step (Kd.int .i64) _ 3 ?hg (N := 17) ?hd (xs := ([a0_3] : List Int)) (inner := [.int .i64 a0_3]) (ok := fun _ => True) (okp := fun _ => True) ?hr ?hp (fun _ hk => hk) trivial (Below.refl _ _) (Nat.le_refl _) (by simp) ?_; (case hd => rfl); (case hg => rfl); (case hr => first | (go_simp; done) | (go_simp; rfl)); (case hp => exact (Reps.one (show Kd.M (Kd.int .i64) _ _ _ a0_3 [.int .i64 a0_3] from rfl) (Reps.none _ _)))
 intro v152 w18 ho19 hb hg_ hnew_
 clear hg_ hnew_
 (first | rw [← Ny151.out] at ho19 | (simp only [Int.reduceToNat] at ho19; rw [← Ny151.out] at ho19))
 have n0_ := Aside0.mk (Kd.R_elder' (by (with_reducible repeat (first | apply Kd.R_alloc | apply Kd.R_drewN | apply Kd.R_drew)); exact HO144.out) (Kd.R_base ho19) hb)
 have n1_ := Aside0.mk (Kd.R_below (by (with_reducible repeat (first | apply Kd.R_alloc | apply Kd.R_drewN | apply Kd.R_drew)); exact HO150.out) hb)
 have n2_ := Aside0.mk (Kd.R_lower (Kd.R_new' ho19 (Kd.R_lt (by (with_reducible repeat (first | apply Kd.R_alloc | apply Kd.R_drewN | apply Kd.R_drew)); exact HO144.out))) (below_size (by repeat (first | (with_reducible first | exact HB.out | apply below_alloc | apply pw_below_drewN | apply below_drew1 | refine below_set ?_ GE141.out) | exact HB.out))))
 have n3_ := Aside0.mk (blk_below (g := gb141) (o := .cells #[.int .i64 a0_0, .int .i64 a0_1, .string a0_2, .int .i64 a0_3, .slice A0_4 l0_4.length c0_4, .int .i64 a0_5] 24 (0, 0)) (by (with_reducible repeat (first | refine blk_drewN ?_ _ | refine blk_drew ?_ | refine blk_alloc ?_ _)); exact BK141.out) hb)
 have n4_ := Aside0.mk (below_step (by repeat (first | (with_reducible first | exact HB.out | apply below_alloc | apply pw_below_drewN | apply below_drew1 | refine below_set ?_ GE141.out) | exact HB.out)) hb)
 clear HO144
 clear HO150
 clear BK141
 clear HB
 have HO144 := n0_
 have HO150 := n1_
 have HO153 := n2_
 have BK141 := n3_
 have HB := n4_
 clear n0_ n1_ n2_ n3_ n4_
 clear hb ho19
 obtain ⟨Ao20, co20, eo20⟩ := Kd.R_slice HO150.out
 (first | subst eo20 | (injection eo20 with f1_ f2_ f3_; have f4_ := f1_.symm; have f5_ := f3_.symm; clear f1_ f2_ f3_; subst f4_; subst f5_))
 obtain ⟨Ao21, co21, eo21⟩ := Kd.R_slice HO153.out
 (first | subst eo21 | (injection eo21 with f1_ f2_ f3_; have f4_ := f1_.symm; have f5_ := f3_.symm; clear f1_ f2_ f3_; subst f4_; subst f5_))
 refine hK.out _ _ ⟨(blk_cell BK141.out 0).trans rfl, (blk_cell BK141.out 1).trans rfl, (blk_cell BK141.out 2).trans rfl, (blk_cell BK141.out 3).trans rfl, (blk_cell BK141.out 4).trans rfl, (blk_cell BK141.out 5).trans rfl⟩ (fun hHeld => ?_)
 clear hK K
 refine norm_ (a' := ?_) ?_ ?_
 rotate_left
 ·show Act.put _ (some 17) _ = _
  simp only [Act.put, List.setIfInBounds_toArray, List.set_cons_zero, List.set_cons_succ, i64_w, i32_w]
  rfl
 refine one_ (i := 4) (N := some 18) #[ZT,ZT,ZT,ZT,ZT,ZT,ZT,ZF,ZF] rfl rfl (one_of HT_.out (by kernel_rfl)) (by decide) (fun K hK => ?_)
 refine goes_ Try.func39 (by kernel_rfl) rfl #[.slice Ao20 t148.length co20, .slice Ao21 y151.length co21] (by rfl) rfl rfl (by (try simp only [List.map_toArray, List.map_cons, List.map_nil]); first | done | rfl | (simp only [List.length_drop, List.length_take]; rfl)) ?_
 with_reducible refine (codec_number.calls k (fun k_ => some k_ = (.slice Ao20 t148.length co20 : Value).ownBlock) (.slice Ao20 t148.length co20) t148 _ _ y151 t154 w _ ?side1 ?side2 ?side3 ?side4 A4.out).mono ?_
 (case side1 => repeat (first | (with_reducible first | exact HB.out | apply below_alloc | apply pw_below_drewN | apply below_drew1 | refine below_set ?_ GE141.out) | exact HB.out))
 (case side2 => exact Kd.R_tight rfl HO150.out)
 (case side3 => exact Kd.C_kept_own ((Kd.R_apart' HO153.out (Kd.R_typed HO150.out) (by decide))) (fun k_ hk_ hs_ => (hk_.2) hs_))
 (case side4 => exact (Kd.R_reads' HO153.out).2.1)
 rintro e w22 ⟨v155, rfl, ho0, hb, hkp⟩
 refine ⟨_, rfl, ?_⟩
 have n0_ := Aside0.mk (blk_kept (by (with_reducible repeat (first | refine blk_drewN ?_ _ | refine blk_drew ?_ | refine blk_alloc ?_ _)); exact BK141.out) hkp (fun hs_ => (fun e_ => (Kd.R_ne HO150.out BK141.out (by decide)) e_) hs_))
 have n1_ := Aside0.mk (Kd.R_mono (ok' := fun k_ => some k_ ≠ (.slice Ao21 y151.length co21 : Value).ownBlock) (Kd.R_keptB ((Kd.R_apart' HO144.out (Kd.R_typed HO150.out) (by decide))) hkp (fun k_ hk_ hs_ => (hk_.2) hs_)) (fun k_ hk_ => hk_.1.1.2))
 have n2_ := Aside0.mk (Kd.R_mono (ok' := fun k_ => some k_ ≠ (.slice Ao13 y142.length co13 : Value).ownBlock) (Kd.R_keptB ((Kd.R_apart' HO153.out (Kd.R_typed HO150.out) (by decide))) hkp (fun k_ hk_ hs_ => (hk_.2) hs_)) (fun k_ hk_ => hk_.1.1.2))
 have n3_ := Aside0.mk (Kd.R_mono (ok' := fun k_ => True) ho0 (fun k_ hk_ => trivial))
 have n4_ := Aside0.mk (hb)
 clear BK141
 clear HO144
 clear HO153
 clear HB
 clear HO150
 have BK141 := n0_
 have HO144 := n1_
 have HO153 := n2_
 have HO156 := n3_
 have HB := n4_
 clear n0_ n1_ n2_ n3_ n4_
 (try clear hb)
 (try clear hkp)
 (try clear ho0)
 obtain ⟨Ao23, co23, eo23⟩ := Kd.R_slice HO156.out
 (first | subst eo23 | (injection eo23 with f1_ f2_ f3_; have f4_ := f1_.symm; have f5_ := f3_.symm; clear f1_ f2_ f3_; subst f4_; subst f5_))
 refine hK.out _ _ ⟨(blk_cell BK141.out 0).trans rfl, (blk_cell BK141.out 1).trans rfl, (blk_cell BK141.out 2).trans rfl, (blk_cell BK141.out 3).trans rfl, (blk_cell BK141.out 4).trans rfl, (blk_cell BK141.out 5).trans rfl⟩ (fun hHeld => ?_)
 clear hK K
 refine norm_ (a' := ?_) ?_ ?_
 rotate_left
 ·show Act.put _ (some 18) _ = _
  simp only [Act.put, List.setIfInBounds_toArray, List.set_cons_zero, List.set_cons_succ, i64_w, i32_w]
  rfl
 refine one_ (i := 7) (N := some 21) #[ZT,ZT,ZT,ZT,ZT,ZT,ZT,ZT,ZF] rfl rfl (one_of HT_.out (by kernel_rfl)) (by decide) (fun K hK => ?_)
 refine goes_ Try.func40 (by kernel_rfl) rfl #[.slice Ao23 t154.length co23, .slice A0_4 l0_4.length c0_4] (by rfl) rfl rfl (by (try simp only [List.map_toArray, List.map_cons, List.map_nil]); first | done | rfl | (simp only [List.length_drop, List.length_take]; rfl)) ?_
 with_reducible refine (codec_numbers.calls (fun k_ => some k_ = (.slice Ao23 t154.length co23 : Value).ownBlock) (.slice Ao23 t154.length co23) t154 _ _ l0_4 t157 w _ ?side1 ?side2 ?side3 ?side4 A5.out).mono ?_
 (case side1 => repeat (first | (with_reducible first | exact HB.out | apply below_alloc | apply pw_below_drewN | apply below_drew1 | refine below_set ?_ GE141.out) | exact HB.out))
 (case side2 => exact Kd.R_tight rfl HO156.out)
 (case side3 => exact Kd.C_kept_came (Kd.heap_int .i64) HR0_4.out (by repeat (first | (with_reducible first | exact HB.out | apply below_alloc | apply pw_below_drewN | apply below_drew1 | refine below_set ?_ GE141.out) | exact HB.out)) (fun k_ hs_ => (fun e_ => Kd.R_base HO156.out k_ e_.symm) hs_))
 (case side4 => exact HC0_4.out)
 rintro e w24 ⟨v158, rfl, ho0, hb, hkp⟩
 refine ⟨_, rfl, ?_⟩
 have n0_ := Aside0.mk (blk_kept (by (with_reducible repeat (first | refine blk_drewN ?_ _ | refine blk_drew ?_ | refine blk_alloc ?_ _)); exact BK141.out) hkp (fun hs_ => (fun e_ => (Kd.R_ne HO156.out BK141.out (by decide)) e_) hs_))
 have n1_ := Aside0.mk (Kd.R_mono (ok' := fun k_ => some k_ ≠ (.slice Ao21 y151.length co21 : Value).ownBlock) (Kd.R_keptB ((Kd.R_apart' HO144.out (Kd.R_typed HO156.out) (by decide))) hkp (fun k_ hk_ hs_ => (hk_.2) hs_)) (fun k_ hk_ => hk_.1.1))
 have n2_ := Aside0.mk (Kd.R_mono (ok' := fun k_ => some k_ ≠ (.slice Ao13 y142.length co13 : Value).ownBlock) (Kd.R_keptB ((Kd.R_apart' HO153.out (Kd.R_typed HO156.out) (by decide))) hkp (fun k_ hk_ hs_ => (hk_.2) hs_)) (fun k_ hk_ => hk_.1.1))
 have n3_ := Aside0.mk (Kd.R_mono (ok' := fun k_ => True) ho0 (fun k_ hk_ => trivial))
 have n4_ := Aside0.mk (hb)
 clear BK141
 clear HO144
 clear HO153
 clear HB
 clear HO156
 have BK141 := n0_
 have HO144 := n1_
 have HO153 := n2_
 have HO159 := n3_
 have HB := n4_
 clear n0_ n1_ n2_ n3_ n4_
 (try clear hb)
 (try clear hkp)
 (try clear ho0)
 refine hK.out _ _ ⟨(blk_cell BK141.out 0).trans rfl, (blk_cell BK141.out 1).trans rfl, (blk_cell BK141.out 2).trans rfl, (blk_cell BK141.out 3).trans rfl, (blk_cell BK141.out 4).trans rfl, (blk_cell BK141.out 5).trans rfl⟩ (fun hHeld => ?_)
 clear hK K
 refine norm_ (a' := ?_) ?_ ?_
 rotate_left
 ·show Act.put _ (some 21) _ = _
  simp only [Act.put, List.setIfInBounds_toArray, List.set_cons_zero, List.set_cons_succ, i64_w, i32_w]
  rfl
 refine pure_ (i := 8) (N := some 4) (v := ?_) (a' := ?_) #[ZT,ZT,ZT,ZT,ZT,ZT,ZT,ZT,ZT] rfl rfl (any_of HT_.out (by kernel_rfl)) (fun _ _ _ h => h) (Or.inl ⟨by rfl, ?_⟩) ?_ ?_
 rotate_left
 ·intro w'
  go_simp
  with_reducible rfl
 rotate_left
 ·simp only [Act.put, List.setIfInBounds_toArray, List.set_cons_zero, List.set_cons_succ, i64_w, i32_w]
  rfl
 refine done_ (done_of HT_.out (by kernel_rfl)) ?_
 obtain ⟨Ao25, co25, eo25⟩ := Kd.R_slice HO159.out
 subst eo25
 try go_wp2
 have n0_ := Aside0.mk (Kd.R_drew HO144.out)
 have n1_ := Aside0.mk (Kd.R_drew HO153.out)
 have n2_ := Aside0.mk (Kd.R_drew HO159.out)
 have n3_ := Aside0.mk (blk_drew BK141.out)
 have n4_ := Aside0.mk (below_drew1 HB.out)
 clear HO144
 clear HO153
 clear HO159
 clear BK141
 clear HB
 have HO144 := n0_
 have HO153 := n1_
 have HO159 := n2_
 have BK141 := n3_
 have HB := n4_
 clear n0_ n1_ n2_ n3_ n4_
 refine start_ (n := 12) (S := fun w' => w'.cell? ⟨gb141, 0, none⟩ = some (.int .i64 a0_0) ∧ w'.cell? ⟨gb141, 1, none⟩ = some (.int .i64 a0_1) ∧ w'.cell? ⟨gb141, 2, none⟩ = some (.string a0_2) ∧ w'.cell? ⟨gb141, 3, none⟩ = some (.int .i64 a0_3) ∧ w'.cell? ⟨gb141, 4, none⟩ = some (.slice A0_4 l0_4.length c0_4) ∧ w'.cell? ⟨gb141, 5, none⟩ = some (.int .i64 a0_5)) (ds := []) #[ZF,ZF,ZF,ZF,ZF,ZF,ZF,ZF,ZF,ZF,ZF,ZF] (by kernel_rfl) rfl rfl ⟨(blk_cell BK141.out 0).trans rfl, (blk_cell BK141.out 1).trans rfl, (blk_cell BK141.out 2).trans rfl, (blk_cell BK141.out 3).trans rfl, (blk_cell BK141.out 4).trans rfl, (blk_cell BK141.out 5).trans rfl⟩ (fun hHeld => ?_); refine with_tabW codec_PutCmd.tab3 codec_PutCmd.bits3 (fun HT_ HW_ => ?_)
 generalize w24.drew = w26 at HO144 HO153 HO159 BK141 HB hHeld ⊢
 refine pure_ (i := 2) (N := some 24) (v := ?_) (a' := ?_) #[ZF,ZF,ZT,ZF,ZF,ZF,ZF,ZF,ZF,ZF,ZF,ZF] rfl rfl (any_of HT_.out (by kernel_rfl)) (fun _ _ _ h => h) (Or.inl ⟨by rfl, ?_⟩) ?_ ?_
 rotate_left
 ·intro w'
  go_simp
  with_reducible rfl
 rotate_left
 ·simp only [Act.put, List.setIfInBounds_toArray, List.set_cons_zero, List.set_cons_succ, i64_w, i32_w]
  rfl
 refine pure_ (i := 3) (N := some 25) (v := ?_) (a' := ?_) #[ZF,ZF,ZT,ZT,ZF,ZF,ZF,ZF,ZF,ZF,ZF,ZF] rfl rfl (any_of HT_.out (by kernel_rfl)) (fun _ _ _ h => h) (Or.inl ⟨by rfl, ?_⟩) ?_ ?_
 rotate_left
 ·intro w'
  go_simp
  with_reducible rfl
 rotate_left
 ·simp only [Act.put, List.setIfInBounds_toArray, List.set_cons_zero, List.set_cons_succ, i64_w, i32_w]
  rfl
 refine take_ (i := 0) (N := some 22) (v := ?_) (a' := ?_) #[ZT,ZF,ZT,ZT,ZF,ZF,ZF,ZF,ZF,ZF,ZF,ZF] rfl rfl (take_ofW HT_.out HW_.out (by kernel_rfl)) (fun _ _ _ h => h) (Or.inl ⟨by rfl, ?_⟩) hHeld ?_ ?_
 rotate_left
 ·rintro w' ⟨s0, s1, s2, s3, s4, s5⟩
  go_simp
  with_reducible rfl
 rotate_left
 ·simp only [Act.put, List.setIfInBounds_toArray, List.set_cons_zero, List.set_cons_succ, i64_w, i32_w]
  rfl
 refine take_ (i := 4) (N := some 26) (v := ?_) (a' := ?_) #[ZT,ZF,ZT,ZT,ZT,ZF,ZF,ZF,ZF,ZF,ZF,ZF] rfl rfl (take_ofW HT_.out HW_.out (by kernel_rfl)) (fun _ _ _ h => h) (Or.inl ⟨by rfl, ?_⟩) hHeld ?_ ?_
 rotate_left
 ·rintro w' ⟨s0, s1, s2, s3, s4, s5⟩
  go_simp
  with_reducible rfl
 rotate_left
 ·simp only [Act.put, List.setIfInBounds_toArray, List.set_cons_zero, List.set_cons_succ, i64_w, i32_w]
  rfl
 refine join_ (σ := Value) 6 #[ZT,ZT,ZT,ZT,ZT,ZT,ZF,ZF,ZF,ZF,ZF,ZF] (fun s_ => [(23, .bool t160), (27, s_)]) (fun s_ w' => (w'.cell? ⟨gb141, 0, none⟩ = some (.int .i64 a0_0) ∧ w'.cell? ⟨gb141, 1, none⟩ = some (.int .i64 a0_1) ∧ w'.cell? ⟨gb141, 2, none⟩ = some (.string a0_2) ∧ w'.cell? ⟨gb141, 3, none⟩ = some (.int .i64 a0_3) ∧ w'.cell? ⟨gb141, 4, none⟩ = some (.slice A0_4 l0_4.length c0_4) ∧ w'.cell? ⟨gb141, 5, none⟩ = some (.int .i64 a0_5)) ∧ (Kd.R (Kd.int .i64) 3 w' w.heap.size (fun k_ => some k_ ≠ (.slice Ao21 y151.length co21 : Value).ownBlock ∧ some k_ ≠ (s_ : Value).ownBlock) (.slice Ao13 y142.length co13) y142) ∧ (Kd.R (Kd.int .i64) 3 w' w.heap.size (fun k_ => some k_ ≠ (.slice Ao13 y142.length co13 : Value).ownBlock ∧ some k_ ≠ (s_ : Value).ownBlock) (.slice Ao21 y151.length co21) y151) ∧ (Kd.R (Kd.int .u8) 5 w' w.heap.size (fun _ => True) (.slice Ao25 t157.length co25) t157) ∧ (Kd.R (Kd.int .i64) 3 w' w.heap.size (fun k_ => some k_ ≠ (.slice Ao13 y142.length co13 : Value).ownBlock ∧ some k_ ≠ (.slice Ao21 y151.length co21 : Value).ownBlock) s_ y161) ∧ (w'.heap[gb141]? = some (.cells #[.int .i64 a0_0, .int .i64 a0_1, .string a0_2, .int .i64 a0_3, .slice A0_4 l0_4.length c0_4, .int .i64 a0_5] 24 (0, 0))) ∧ (Below w.heap.size w w')) ?_ ?_
 rotate_left
 ·intro hCont
  refine two_ (i := 1) (j := 5) (Ni := some 23) (Nj := some 27) #[ZT,ZT,ZT,ZT,ZT,ZF,ZF,ZF,ZF,ZF,ZF,ZF] #[ZT,ZF,ZT,ZT,ZT,ZT,ZF,ZF,ZF,ZF,ZF,ZF] rfl rfl rfl rfl (two_of HT_.out (by kernel_rfl)) (by decide) (by decide) (fun K hK => ?_) (fun K hK => ?_)
  ·skip
   refine goes_ Try.func42 (by kernel_rfl) rfl #[.agg #[.int .i64 a0_0, .int .i64 a0_1, .string a0_2, .int .i64 a0_3, .slice A0_4 l0_4.length c0_4, .int .i64 a0_5]] (by rfl) rfl rfl (by (try simp only [List.map_toArray, List.map_cons, List.map_nil]); first | done | rfl | (simp only [List.length_drop, List.length_take]; rfl)) ?_
   with_reducible refine (codec_cmd.calls k a0_0 a0_1 a0_2 a0_3 _ _ l0_4 a0_5 t160 _ ?side1 ?side2 A6.out).mono ?_
   (case side1 => repeat (first | exact (Kd.C_below HR0_4.out HB.out) | (with_reducible refine Kd.C_alloc ?_ _) | (with_reducible refine Kd.C_drewN ?_ _) | (with_reducible refine Kd.C_drew ?_)))
   (case side2 => exact HC0_4.out)
   rintro e w27 ⟨rfl, hb⟩
   refine ⟨_, rfl, ?_⟩
   have n0_ := Aside0.mk (Kd.R_below (by (with_reducible repeat (first | apply Kd.R_alloc | apply Kd.R_drewN | apply Kd.R_drew)); exact HO144.out) hb)
   have n1_ := Aside0.mk (Kd.R_below (by (with_reducible repeat (first | apply Kd.R_alloc | apply Kd.R_drewN | apply Kd.R_drew)); exact HO153.out) hb)
   have n2_ := Aside0.mk (Kd.R_below (by (with_reducible repeat (first | apply Kd.R_alloc | apply Kd.R_drewN | apply Kd.R_drew)); exact HO159.out) hb)
   have n3_ := Aside0.mk (blk_below (g := gb141) (o := .cells #[.int .i64 a0_0, .int .i64 a0_1, .string a0_2, .int .i64 a0_3, .slice A0_4 l0_4.length c0_4, .int .i64 a0_5] 24 (0, 0)) (by (with_reducible repeat (first | refine blk_drewN ?_ _ | refine blk_drew ?_ | refine blk_alloc ?_ _)); exact BK141.out) hb)
   have n4_ := Aside0.mk (below_step (by repeat (first | (with_reducible first | exact HB.out | apply below_alloc | apply pw_below_drewN | apply below_drew1 | refine below_set ?_ GE141.out) | exact HB.out)) hb)
   clear HO144
   clear HO153
   clear HO159
   clear BK141
   clear HB
   have HO144 := n0_
   have HO153 := n1_
   have HO159 := n2_
   have BK141 := n3_
   have HB := n4_
   clear n0_ n1_ n2_ n3_ n4_
   (try clear hb)
   (try clear hb2)
   (try clear hk)
   (try clear hi)
   refine hK.out _ _ ⟨(blk_cell BK141.out 0).trans rfl, (blk_cell BK141.out 1).trans rfl, (blk_cell BK141.out 2).trans rfl, (blk_cell BK141.out 3).trans rfl, (blk_cell BK141.out 4).trans rfl, (blk_cell BK141.out 5).trans rfl⟩ (fun hHeld => ?_)
   clear hK K
   refine norm_ (a' := ?_) ?_ ?_
   rotate_left
   ·show Act.put _ (some 23) _ = _
    simp only [Act.put, List.setIfInBounds_toArray, List.set_cons_zero, List.set_cons_succ, i64_w, i32_w]
    rfl
   refine one_ (i := 5) (N := some 27) #[ZT,ZT,ZT,ZT,ZT,ZT,ZF,ZF,ZF,ZF,ZF,ZF] rfl rfl (one_of HT_.out (by kernel_rfl)) (by decide) (fun K hK => ?_)
   refine Kd.R_lit_step (Kd.int .i64) _ 3 ?hg (N := 27) ?hd (xs := ([a0_5] : List Int)) (inner := [.int .i64 a0_5]) (ok := fun _ => True) (okp := fun _ => True) ?hr ?hp (fun _ hk => hk) trivial (Below.refl _ _) (Nat.le_refl _) (by simp) ?_; (case hd => rfl); (case hg => rfl); (case hr => first | (go_simp; done) | (go_simp; rfl)); (case hp => exact (Reps.one (show Kd.M (Kd.int .i64) _ _ _ a0_5 [.int .i64 a0_5] from rfl) (Reps.none _ _)))
   intro v162 w28 ho29 hb hg_ hnew_
   clear hg_ hnew_
   (first | rw [← Ny161.out] at ho29 | (simp only [Int.reduceToNat] at ho29; rw [← Ny161.out] at ho29))
   have n0_ := Aside0.mk (Kd.R_elder' (by (with_reducible repeat (first | apply Kd.R_alloc | apply Kd.R_drewN | apply Kd.R_drew)); exact HO144.out) (Kd.R_base ho29) hb)
   have n1_ := Aside0.mk (Kd.R_elder' (by (with_reducible repeat (first | apply Kd.R_alloc | apply Kd.R_drewN | apply Kd.R_drew)); exact HO153.out) (Kd.R_base ho29) hb)
   have n2_ := Aside0.mk (Kd.R_below (by (with_reducible repeat (first | apply Kd.R_alloc | apply Kd.R_drewN | apply Kd.R_drew)); exact HO159.out) hb)
   have n3_ := Aside0.mk (Kd.R_lower (Kd.R_new' (Kd.R_new' ho29 (Kd.R_lt (by (with_reducible repeat (first | apply Kd.R_alloc | apply Kd.R_drewN | apply Kd.R_drew)); exact HO144.out))) (Kd.R_lt (by (with_reducible repeat (first | apply Kd.R_alloc | apply Kd.R_drewN | apply Kd.R_drew)); exact HO153.out))) (below_size (by repeat (first | (with_reducible first | exact HB.out | apply below_alloc | apply pw_below_drewN | apply below_drew1 | refine below_set ?_ GE141.out) | exact HB.out))))
   have n4_ := Aside0.mk (blk_below (g := gb141) (o := .cells #[.int .i64 a0_0, .int .i64 a0_1, .string a0_2, .int .i64 a0_3, .slice A0_4 l0_4.length c0_4, .int .i64 a0_5] 24 (0, 0)) (by (with_reducible repeat (first | refine blk_drewN ?_ _ | refine blk_drew ?_ | refine blk_alloc ?_ _)); exact BK141.out) hb)
   have n5_ := Aside0.mk (below_step (by repeat (first | (with_reducible first | exact HB.out | apply below_alloc | apply pw_below_drewN | apply below_drew1 | refine below_set ?_ GE141.out) | exact HB.out)) hb)
   clear HO144
   clear HO153
   clear HO159
   clear BK141
   clear HB
   have HO144 := n0_
   have HO153 := n1_
   have HO159 := n2_
   have HO163 := n3_
   have BK141 := n4_
   have HB := n5_
   clear n0_ n1_ n2_ n3_ n4_ n5_
   clear hb ho29
   refine hK.out _ _ ⟨(blk_cell BK141.out 0).trans rfl, (blk_cell BK141.out 1).trans rfl, (blk_cell BK141.out 2).trans rfl, (blk_cell BK141.out 3).trans rfl, (blk_cell BK141.out 4).trans rfl, (blk_cell BK141.out 5).trans rfl⟩ (fun hHeld => ?_)
   clear hK K
   refine norm_ (a' := ?_) ?_ ?_
   rotate_left
   ·show Act.put _ (some 27) _ = _
    simp only [Act.put, List.setIfInBounds_toArray, List.set_cons_zero, List.set_cons_succ, i64_w, i32_w]
    rfl
   exact norm_ (by simp only [putAll, Act.put, List.setIfInBounds_toArray, List.set_cons_zero, List.set_cons_succ]) (hCont (v162) _ ⟨hHeld, (by (with_reducible repeat (first | apply Kd.R_alloc | apply Kd.R_drewN | apply Kd.R_drew)); exact HO144.out), (by (with_reducible repeat (first | apply Kd.R_alloc | apply Kd.R_drewN | apply Kd.R_drew)); exact HO153.out), (by (with_reducible repeat (first | apply Kd.R_alloc | apply Kd.R_drewN | apply Kd.R_drew)); exact HO159.out), (by (with_reducible repeat (first | apply Kd.R_alloc | apply Kd.R_drewN | apply Kd.R_drew)); exact Kd.R_mono HO163.out (fun _ hk => ⟨hk.1.2, hk.2⟩)), (by (with_reducible repeat (first | refine blk_drewN ?_ _ | refine blk_drew ?_ | refine blk_alloc ?_ _)); exact BK141.out), (by repeat (first | (with_reducible first | exact HB.out | apply below_alloc | apply pw_below_drewN | apply below_drew1 | refine below_set ?_ GE141.out) | exact HB.out))⟩)
  ·skip
   refine Kd.R_lit_step (Kd.int .i64) _ 3 ?hg (N := 27) ?hd (xs := ([a0_5] : List Int)) (inner := [.int .i64 a0_5]) (ok := fun _ => True) (okp := fun _ => True) ?hr ?hp (fun _ hk => hk) trivial (Below.refl _ _) (Nat.le_refl _) (by simp) ?_; (case hd => rfl); (case hg => rfl); (case hr => first | (go_simp; done) | (go_simp; rfl)); (case hp => exact (Reps.one (show Kd.M (Kd.int .i64) _ _ _ a0_5 [.int .i64 a0_5] from rfl) (Reps.none _ _)))
   intro v162 w27 ho28 hb hg_ hnew_
   clear hg_ hnew_
   (first | rw [← Ny161.out] at ho28 | (simp only [Int.reduceToNat] at ho28; rw [← Ny161.out] at ho28))
   have n0_ := Aside0.mk (Kd.R_elder' (by (with_reducible repeat (first | apply Kd.R_alloc | apply Kd.R_drewN | apply Kd.R_drew)); exact HO144.out) (Kd.R_base ho28) hb)
   have n1_ := Aside0.mk (Kd.R_elder' (by (with_reducible repeat (first | apply Kd.R_alloc | apply Kd.R_drewN | apply Kd.R_drew)); exact HO153.out) (Kd.R_base ho28) hb)
   have n2_ := Aside0.mk (Kd.R_below (by (with_reducible repeat (first | apply Kd.R_alloc | apply Kd.R_drewN | apply Kd.R_drew)); exact HO159.out) hb)
   have n3_ := Aside0.mk (Kd.R_lower (Kd.R_new' (Kd.R_new' ho28 (Kd.R_lt (by (with_reducible repeat (first | apply Kd.R_alloc | apply Kd.R_drewN | apply Kd.R_drew)); exact HO144.out))) (Kd.R_lt (by (with_reducible repeat (first | apply Kd.R_alloc | apply Kd.R_drewN | apply Kd.R_drew)); exact HO153.out))) (below_size (by repeat (first | (with_reducible first | exact HB.out | apply below_alloc | apply pw_below_drewN | apply below_drew1 | refine below_set ?_ GE141.out) | exact HB.out))))
   have n4_ := Aside0.mk (blk_below (g := gb141) (o := .cells #[.int .i64 a0_0, .int .i64 a0_1, .string a0_2, .int .i64 a0_3, .slice A0_4 l0_4.length c0_4, .int .i64 a0_5] 24 (0, 0)) (by (with_reducible repeat (first | refine blk_drewN ?_ _ | refine blk_drew ?_ | refine blk_alloc ?_ _)); exact BK141.out) hb)
   have n5_ := Aside0.mk (below_step (by repeat (first | (with_reducible first | exact HB.out | apply below_alloc | apply pw_below_drewN | apply below_drew1 | refine below_set ?_ GE141.out) | exact HB.out)) hb)
   clear HO144
   clear HO153
   clear HO159
   clear BK141
   clear HB
   have HO144 := n0_
   have HO153 := n1_
   have HO159 := n2_
   have HO163 := n3_
   have BK141 := n4_
   have HB := n5_
   clear n0_ n1_ n2_ n3_ n4_ n5_
   clear hb ho28
   refine hK.out _ _ ⟨(blk_cell BK141.out 0).trans rfl, (blk_cell BK141.out 1).trans rfl, (blk_cell BK141.out 2).trans rfl, (blk_cell BK141.out 3).trans rfl, (blk_cell BK141.out 4).trans rfl, (blk_cell BK141.out 5).trans rfl⟩ (fun hHeld => ?_)
   clear hK K
   refine norm_ (a' := ?_) ?_ ?_
   rotate_left
   ·show Act.put _ (some 27) _ = _
    simp only [Act.put, List.setIfInBounds_toArray, List.set_cons_zero, List.set_cons_succ, i64_w, i32_w]
    rfl
   refine one_ (i := 1) (N := some 23) #[ZT,ZT,ZT,ZT,ZT,ZT,ZF,ZF,ZF,ZF,ZF,ZF] rfl rfl (one_of HT_.out (by kernel_rfl)) (by decide) (fun K hK => ?_)
   refine goes_ Try.func42 (by kernel_rfl) rfl #[.agg #[.int .i64 a0_0, .int .i64 a0_1, .string a0_2, .int .i64 a0_3, .slice A0_4 l0_4.length c0_4, .int .i64 a0_5]] (by rfl) rfl rfl (by (try simp only [List.map_toArray, List.map_cons, List.map_nil]); first | done | rfl | (simp only [List.length_drop, List.length_take]; rfl)) ?_
   with_reducible refine (codec_cmd.calls k a0_0 a0_1 a0_2 a0_3 _ _ l0_4 a0_5 t160 _ ?side1 ?side2 A6.out).mono ?_
   (case side1 => repeat (first | exact (Kd.C_below HR0_4.out HB.out) | (with_reducible refine Kd.C_alloc ?_ _) | (with_reducible refine Kd.C_drewN ?_ _) | (with_reducible refine Kd.C_drew ?_)))
   (case side2 => exact HC0_4.out)
   rintro e w29 ⟨rfl, hb⟩
   refine ⟨_, rfl, ?_⟩
   have n0_ := Aside0.mk (Kd.R_below (by (with_reducible repeat (first | apply Kd.R_alloc | apply Kd.R_drewN | apply Kd.R_drew)); exact HO144.out) hb)
   have n1_ := Aside0.mk (Kd.R_below (by (with_reducible repeat (first | apply Kd.R_alloc | apply Kd.R_drewN | apply Kd.R_drew)); exact HO153.out) hb)
   have n2_ := Aside0.mk (Kd.R_below (by (with_reducible repeat (first | apply Kd.R_alloc | apply Kd.R_drewN | apply Kd.R_drew)); exact HO159.out) hb)
   have n3_ := Aside0.mk (Kd.R_below (by (with_reducible repeat (first | apply Kd.R_alloc | apply Kd.R_drewN | apply Kd.R_drew)); exact HO163.out) hb)
   have n4_ := Aside0.mk (blk_below (g := gb141) (o := .cells #[.int .i64 a0_0, .int .i64 a0_1, .string a0_2, .int .i64 a0_3, .slice A0_4 l0_4.length c0_4, .int .i64 a0_5] 24 (0, 0)) (by (with_reducible repeat (first | refine blk_drewN ?_ _ | refine blk_drew ?_ | refine blk_alloc ?_ _)); exact BK141.out) hb)
   have n5_ := Aside0.mk (below_step (by repeat (first | (with_reducible first | exact HB.out | apply below_alloc | apply pw_below_drewN | apply below_drew1 | refine below_set ?_ GE141.out) | exact HB.out)) hb)
   clear HO144
   clear HO153
   clear HO159
   clear HO163
   clear BK141
   clear HB
   have HO144 := n0_
   have HO153 := n1_
   have HO159 := n2_
   have HO163 := n3_
   have BK141 := n4_
   have HB := n5_
   clear n0_ n1_ n2_ n3_ n4_ n5_
   (try clear hb)
   (try clear hb2)
   (try clear hk)
   (try clear hi)
   refine hK.out _ _ ⟨(blk_cell BK141.out 0).trans rfl, (blk_cell BK141.out 1).trans rfl, (blk_cell BK141.out 2).trans rfl, (blk_cell BK141.out 3).trans rfl, (blk_cell BK141.out 4).trans rfl, (blk_cell BK141.out 5).trans rfl⟩ (fun hHeld => ?_)
   clear hK K
   refine norm_ (a' := ?_) ?_ ?_
   rotate_left
   ·show Act.put _ (some 23) _ = _
    simp only [Act.put, List.setIfInBounds_toArray, List.set_cons_zero, List.set_cons_succ, i64_w, i32_w]
    rfl
   exact norm_ (by simp only [putAll, Act.put, List.setIfInBounds_toArray, List.set_cons_zero, List.set_cons_succ]) (hCont (v162) _ ⟨hHeld, (by (with_reducible repeat (first | apply Kd.R_alloc | apply Kd.R_drewN | apply Kd.R_drew)); exact HO144.out), (by (with_reducible repeat (first | apply Kd.R_alloc | apply Kd.R_drewN | apply Kd.R_drew)); exact HO153.out), (by (with_reducible repeat (first | apply Kd.R_alloc | apply Kd.R_drewN | apply Kd.R_drew)); exact HO159.out), (by (with_reducible repeat (first | apply Kd.R_alloc | apply Kd.R_drewN | apply Kd.R_drew)); exact Kd.R_mono HO163.out (fun _ hk => ⟨hk.1.2, hk.2⟩)), (by (with_reducible repeat (first | refine blk_drewN ?_ _ | refine blk_drew ?_ | refine blk_alloc ?_ _)); exact BK141.out), (by repeat (first | (with_reducible first | exact HB.out | apply below_alloc | apply pw_below_drewN | apply below_drew1 | refine below_set ?_ GE141.out) | exact HB.out))⟩)
 rintro v162 w30 ⟨hS_, h0_, h1_, h2_, h3_, h4_, h5_⟩
 have n0_ : Aside0 (Kd.R (Kd.int .i64) 3 w30 w.heap.size (fun k_ => some k_ ≠ (.slice Ao21 y151.length co21 : Value).ownBlock ∧ some k_ ≠ (v162 : Value).ownBlock) (.slice Ao13 y142.length co13) y142) := ⟨h0_⟩
 have n1_ : Aside0 (Kd.R (Kd.int .i64) 3 w30 w.heap.size (fun k_ => some k_ ≠ (.slice Ao13 y142.length co13 : Value).ownBlock ∧ some k_ ≠ (v162 : Value).ownBlock) (.slice Ao21 y151.length co21) y151) := ⟨h1_⟩
 have n2_ : Aside0 (Kd.R (Kd.int .u8) 5 w30 w.heap.size (fun _ => True) (.slice Ao25 t157.length co25) t157) := ⟨h2_⟩
 have n3_ : Aside0 (Kd.R (Kd.int .i64) 3 w30 w.heap.size (fun k_ => some k_ ≠ (.slice Ao13 y142.length co13 : Value).ownBlock ∧ some k_ ≠ (.slice Ao21 y151.length co21 : Value).ownBlock) v162 y161) := ⟨h3_⟩
 have n4_ : Aside0 (w30.heap[gb141]? = some (.cells #[.int .i64 a0_0, .int .i64 a0_1, .string a0_2, .int .i64 a0_3, .slice A0_4 l0_4.length c0_4, .int .i64 a0_5] 24 (0, 0))) := ⟨h4_⟩
 have n5_ : Aside0 (Below w.heap.size w w30) := ⟨h5_⟩
 clear HO144
 clear HO153
 clear HO159
 clear BK141
 clear HB
 clear h0_ h1_ h2_ h3_ h4_ h5_
 have HO144 := n0_
 have HO153 := n1_
 have HO159 := n2_
 have HO163 := n3_
 have BK141 := n4_
 have HB := n5_
 clear n0_ n1_ n2_ n3_ n4_ n5_
 have hHeld : w30.cell? ⟨gb141, 0, none⟩ = some (.int .i64 a0_0) ∧ w30.cell? ⟨gb141, 1, none⟩ = some (.int .i64 a0_1) ∧ w30.cell? ⟨gb141, 2, none⟩ = some (.string a0_2) ∧ w30.cell? ⟨gb141, 3, none⟩ = some (.int .i64 a0_3) ∧ w30.cell? ⟨gb141, 4, none⟩ = some (.slice A0_4 l0_4.length c0_4) ∧ w30.cell? ⟨gb141, 5, none⟩ = some (.int .i64 a0_5) := hS_
 obtain ⟨Ao31, co31, eo31⟩ := Kd.R_slice HO163.out
 (first | subst eo31 | (injection eo31 with f1_ f2_ f3_; have f4_ := f1_.symm; have f5_ := f3_.symm; clear f1_ f2_ f3_; subst f4_; subst f5_))
 refine norm_ (a' := ?_) ?_ ?_
 rotate_left
 ·simp only [putAll, Act.put, List.setIfInBounds_toArray, List.set_cons_zero, List.set_cons_succ]
  rfl
 refine one_ (i := 6) (N := some 28) #[ZT,ZT,ZT,ZT,ZT,ZT,ZT,ZF,ZF,ZF,ZF,ZF] rfl rfl (one_of HT_.out (by kernel_rfl)) (by decide) (fun K hK => ?_)
 refine goes_ Try.func39 (by kernel_rfl) rfl #[.slice Ao25 t157.length co25, .slice Ao31 y161.length co31] (by rfl) rfl rfl (by (try simp only [List.map_toArray, List.map_cons, List.map_nil]); first | done | rfl | (simp only [List.length_drop, List.length_take]; rfl)) ?_
 with_reducible refine (codec_number.calls k (fun k_ => some k_ = (.slice Ao25 t157.length co25 : Value).ownBlock) (.slice Ao25 t157.length co25) t157 _ _ y161 t164 w _ ?side1 ?side2 ?side3 ?side4 A7.out).mono ?_
 (case side1 => repeat (first | (with_reducible first | exact HB.out | apply below_alloc | apply pw_below_drewN | apply below_drew1 | refine below_set ?_ GE141.out) | exact HB.out))
 (case side2 => exact Kd.R_tight rfl HO159.out)
 (case side3 => exact Kd.C_kept_own ((Kd.R_apart' HO163.out (Kd.R_typed HO159.out) (by decide))) (fun k_ hk_ hs_ => (hk_.2) hs_))
 (case side4 => exact (Kd.R_reads' HO163.out).2.1)
 rintro e w32 ⟨v165, rfl, ho0, hb, hkp⟩
 refine ⟨_, rfl, ?_⟩
 have n0_ := Aside0.mk (blk_kept (by (with_reducible repeat (first | refine blk_drewN ?_ _ | refine blk_drew ?_ | refine blk_alloc ?_ _)); exact BK141.out) hkp (fun hs_ => (fun e_ => (Kd.R_ne HO159.out BK141.out (by decide)) e_) hs_))
 have n1_ := Aside0.mk (Kd.R_mono (ok' := fun k_ => some k_ ≠ (.slice Ao21 y151.length co21 : Value).ownBlock ∧ some k_ ≠ (.slice Ao31 y161.length co31 : Value).ownBlock) (Kd.R_keptB ((Kd.R_apart' HO144.out (Kd.R_typed HO159.out) (by decide))) hkp (fun k_ hk_ hs_ => (hk_.2) hs_)) (fun k_ hk_ => ⟨hk_.1.1.1, hk_.1.1.2⟩))
 have n2_ := Aside0.mk (Kd.R_mono (ok' := fun k_ => some k_ ≠ (.slice Ao13 y142.length co13 : Value).ownBlock ∧ some k_ ≠ (.slice Ao31 y161.length co31 : Value).ownBlock) (Kd.R_keptB ((Kd.R_apart' HO153.out (Kd.R_typed HO159.out) (by decide))) hkp (fun k_ hk_ hs_ => (hk_.2) hs_)) (fun k_ hk_ => ⟨hk_.1.1.1, hk_.1.1.2⟩))
 have n3_ := Aside0.mk (Kd.R_mono (ok' := fun k_ => some k_ ≠ (.slice Ao13 y142.length co13 : Value).ownBlock ∧ some k_ ≠ (.slice Ao21 y151.length co21 : Value).ownBlock) (Kd.R_keptB ((Kd.R_apart' HO163.out (Kd.R_typed HO159.out) (by decide))) hkp (fun k_ hk_ hs_ => (hk_.2) hs_)) (fun k_ hk_ => ⟨hk_.1.1.1, hk_.1.1.2⟩))
 have n4_ := Aside0.mk (Kd.R_mono (ok' := fun k_ => True) ho0 (fun k_ hk_ => trivial))
 have n5_ := Aside0.mk (hb)
 clear BK141
 clear HO144
 clear HO153
 clear HO163
 clear HB
 clear HO159
 have BK141 := n0_
 have HO144 := n1_
 have HO153 := n2_
 have HO163 := n3_
 have HO166 := n4_
 have HB := n5_
 clear n0_ n1_ n2_ n3_ n4_ n5_
 (try clear hb)
 (try clear hkp)
 (try clear ho0)
 obtain ⟨Ao33, co33, eo33⟩ := Kd.R_slice HO166.out
 (first | subst eo33 | (injection eo33 with f1_ f2_ f3_; have f4_ := f1_.symm; have f5_ := f3_.symm; clear f1_ f2_ f3_; subst f4_; subst f5_))
 refine hK.out _ _ ⟨(blk_cell BK141.out 0).trans rfl, (blk_cell BK141.out 1).trans rfl, (blk_cell BK141.out 2).trans rfl, (blk_cell BK141.out 3).trans rfl, (blk_cell BK141.out 4).trans rfl, (blk_cell BK141.out 5).trans rfl⟩ (fun hHeld => ?_)
 clear hK K
 refine norm_ (a' := ?_) ?_ ?_
 rotate_left
 ·show Act.put _ (some 28) _ = _
  simp only [Act.put, List.setIfInBounds_toArray, List.set_cons_zero, List.set_cons_succ, i64_w, i32_w]
  rfl
 refine one_ (i := 7) (N := some 29) #[ZT,ZT,ZT,ZT,ZT,ZT,ZT,ZT,ZF,ZF,ZF,ZF] rfl rfl (one_of HT_.out (by kernel_rfl)) (by decide) (fun K hK => ?_)
 refine goes_ Try.func41 (by kernel_rfl) rfl #[.bool t160, .slice Ao33 t164.length co33] (by rfl) rfl rfl (by (try simp only [List.map_toArray, List.map_cons, List.map_nil]); first | done | rfl | (simp only [List.length_drop, List.length_take]; rfl)) ?_
 with_reducible refine (codec_laid.calls t160 _ _ t164 t167 t168 _ ?side1 ?side2 A8.out).mono ?_
 (case side1 => repeat (first | exact (Kd.R_reads' HO166.out).2.2 | (with_reducible refine Kd.C_alloc ?_ _) | (with_reducible refine Kd.C_drewN ?_ _) | (with_reducible refine Kd.C_drew ?_)))
 (case side2 => exact (Kd.R_reads' HO166.out).2.1)
 rintro e w' ⟨rfl, ⟨nd, rfl⟩⟩
 refine ⟨_, rfl, ?_⟩
 refine hK.out _ _ ⟨(blk_cell BK141.out 0).trans rfl, (blk_cell BK141.out 1).trans rfl, (blk_cell BK141.out 2).trans rfl, (blk_cell BK141.out 3).trans rfl, (blk_cell BK141.out 4).trans rfl, (blk_cell BK141.out 5).trans rfl⟩ (fun hHeld => ?_)
 clear hK K
 refine norm_ (a' := ?_) ?_ ?_
 rotate_left
 ·show Act.put _ (some 29) _ = _
  simp only [Act.put, List.setIfInBounds_toArray, List.set_cons_zero, List.set_cons_succ, i64_w, i32_w]
  rfl
 refine pure_ (i := 8) (N := some 30) (v := ?_) (a' := ?_) #[ZT,ZT,ZT,ZT,ZT,ZT,ZT,ZT,ZT,ZF,ZF,ZF] rfl rfl (any_of HT_.out (by kernel_rfl)) (fun _ _ _ h => h) (Or.inl ⟨by rfl, ?_⟩) ?_ ?_
 rotate_left
 ·intro w'
  go_simp
  with_reducible rfl
 rotate_left
 ·simp only [Act.put, List.setIfInBounds_toArray, List.set_cons_zero, List.set_cons_succ, i64_w, i32_w]
  rfl
 refine pure_ (i := 9) (N := some 31) (v := ?_) (a' := ?_) #[ZT,ZT,ZT,ZT,ZT,ZT,ZT,ZT,ZT,ZT,ZF,ZF] rfl rfl (any_of HT_.out (by kernel_rfl)) (fun _ _ _ h => h) (Or.inl ⟨by rfl, ?_⟩) ?_ ?_
 rotate_left
 ·intro w'
  go_simp
  with_reducible rfl
 rotate_left
 ·simp only [Act.put, List.setIfInBounds_toArray, List.set_cons_zero, List.set_cons_succ, i64_w, i32_w]
  rfl
 refine pure_ (i := 10) (N := some 2) (v := ?_) (a' := ?_) #[ZT,ZT,ZT,ZT,ZT,ZT,ZT,ZT,ZT,ZT,ZT,ZF] rfl rfl (any_of HT_.out (by kernel_rfl)) (fun _ _ _ h => h) (Or.inl ⟨by rfl, ?_⟩) ?_ ?_
 rotate_left
 ·intro w'
  go_simp
  with_reducible rfl
 rotate_left
 ·simp only [Act.put, List.setIfInBounds_toArray, List.set_cons_zero, List.set_cons_succ, i64_w, i32_w]
  rfl
 refine pure_ (i := 11) (N := some 3) (v := ?_) (a' := ?_) #[ZT,ZT,ZT,ZT,ZT,ZT,ZT,ZT,ZT,ZT,ZT,ZT] rfl rfl (any_of HT_.out (by kernel_rfl)) (fun _ _ _ h => h) (Or.inl ⟨by rfl, ?_⟩) ?_ ?_
 rotate_left
 ·intro w'
  go_simp
  with_reducible rfl
 rotate_left
 ·simp only [Act.put, List.setIfInBounds_toArray, List.set_cons_zero, List.set_cons_succ, i64_w, i32_w]
  rfl
 refine done_ (done_of HT_.out (by kernel_rfl)) ?_
 try go_wp2
 go_ret2
 exact ⟨by first | rfl | (simp [errW_none, errW_some] <;> rfl) | (simp [*, errW_none, errW_some] <;> rfl), by repeat (first | (with_reducible first | exact HB.out | apply below_alloc | apply pw_below_drewN | apply below_drew1 | refine below_set ?_ GE141.out) | exact HB.out)⟩
end Go.Proofs.Ytbfehjncllkogaa.Q
