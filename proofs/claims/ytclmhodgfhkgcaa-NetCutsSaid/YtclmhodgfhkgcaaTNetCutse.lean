/- Texts of this session laid together (merge.py): YtclmhodgfhkgcaaNDoM, YtclmhodgfhkgcaaNDoD, YtclmhodgfhkgcaaNMark, YtclmhodgfhkgcaaNDo, YtclmhodgfhkgcaaQf21, YtclmhodgfhkgcaaLDoes0, YtclmhodgfhkgcaaLDoes, YtclmhodgfhkgcaaLCuts. -/
import Derived.Test.YtclmhodgfhkgcaaTNetCutsd
/- The contract of do: kind 6. (Printed by gen_do.py.) -/
namespace Go.Proofs.Ytclmhodgfhkgcaa.Q
open Go.RowKit Go.Proofs.YtclmhodgfhkgcaaW.PrintWords Go.Proofs.YtclmhodgfhkgcaaW.PrintLast Go.Proofs.YtclmhodgfhkgcaaW.PrintMore
set_option linter.unusedVariables false
set_option linter.unusedSimpArgs false

theorem nMove_no {X : Nt} {i j : Int} (h : ¬ (Is X i ∧ Is X j)) : nMove X i j = (3, X) := if_neg h
theorem nMove_yes {X : Nt} {k j : Nat} (h : k < X.l.length) (hj : j < X.l.length) : nMove X k j = (0, { X with l := insL (takeL X.l k) j X.l[k] }) := by
  unfold nMove
  rw [if_pos ⟨is_nat h, is_nat hj⟩, rdM_nat h]
  rfl
set_option maxHeartbeats 4000000 in
set_option maxRecDepth 100000 in
theorem do_move_no1 (w0 w : World) (b c x o n : Nat) (X : Nt) (i j : Int) (m : Msg) (all : Bool) (h0 : Duo w0 w b c x o n X X) (hF : Fine X) (hi : ¬ Is X i) :
    Calls Try.prog 16 #[.pointer (some ⟨b, 0, none⟩), .pointer (some ⟨x, 0, none⟩), .agg #[.int .i64 6, .int .i64 i, .int .i64 j, .int .i64 m.f0, .int .i64 m.f1, .string m.f2, .bool all]] w fun e w' => e = .returned (.bool true) ∧ Duo w0 w' b c x o (n + 1) (X) (X) ∧ Chg (SD b c x o) w w' := by
  have H0 := Aside0.mk h0
  have HF := Aside0.mk hF
  clear h0 hF
  have HI := Aside0.mk hi
  have HD := Aside0.mk (fun w1 (h : Duo w0 w1 b c x o n X X) => h.move HF.out.len i j)
  rw [nMove_no (fun h => hi h.1)] at HD
  clear hi
  go_enter Try.func16, Try.ntmps16
  go_wp2_with (first | ((with_reducible refine gate_dst (N := 5) rfl ?_); refine box_event ?hg (N := 5) ?hd (cs := #[.int .i64 6, .int .i64 i, .int .i64 j, .int .i64 m.f0, .int .i64 m.f1, .string m.f2, .bool all]) (t := 41) ?hr ?_; (case hd => rfl); (case hg => rfl); (case hr => first | (go_simp; done) | (go_simp; rfl)); intro gA hgA w1 hbox hb1; have HB := Aside0.mk (DuoB.mk (H0.out.quiet (Chg.of_below hb1 _)) hbox (H0.out.away (Nat.le_of_eq hgA.symm)) (Chg.of_below hb1 _)); obtain ⟨d0, d1, d2, d3, d4, d5, d6, f0, f1, f2, f3, f4, f5, f6⟩ := box7 hbox; have lgA := blk_lt hbox; clear hb1 hbox hgA) | (go_at_call 30; (with_reducible refine (HB.out.duo.ris_no HI.out).mono ?_); rintro e w2 ⟨rfl, rfl⟩) | (go_at_call 11; (with_reducible refine (HB.out.call (HD.out _ HB.out.duo)).mono ?_); rintro e w2 ⟨rfl, hB⟩; clear lgA d0 d1 d2 d3 d4 d5 d6 f0 f1 f2 f3 f4 f5 f6; have n0 := Aside0.mk hB; clear HB hB; have HB := n0; clear n0; obtain ⟨d0, d1, d2, d3, d4, d5, d6, f0, f1, f2, f3, f4, f5, f6⟩ := box7 HB.out.box; have lgA := blk_lt HB.out.box))
  go_ret
  exact ⟨rfl, HB.out.duo.more (Nat.le_succ _), HB.out.chg⟩
set_option maxHeartbeats 4000000 in
set_option maxRecDepth 100000 in
theorem do_move_no2 (w0 w : World) (b c x o n : Nat) (X : Nt) (i j : Int) (m : Msg) (all : Bool) (h0 : Duo w0 w b c x o n X X) (hF : Fine X) (hi : Is X i) (hj : ¬ Is X j) :
    Calls Try.prog 16 #[.pointer (some ⟨b, 0, none⟩), .pointer (some ⟨x, 0, none⟩), .agg #[.int .i64 6, .int .i64 i, .int .i64 j, .int .i64 m.f0, .int .i64 m.f1, .string m.f2, .bool all]] w fun e w' => e = .returned (.bool true) ∧ Duo w0 w' b c x o (n + 1) (X) (X) ∧ Chg (SD b c x o) w w' := by
  have H0 := Aside0.mk h0
  have HF := Aside0.mk hF
  clear h0 hF
  have HI := Aside0.mk hi
  have HJ := Aside0.mk hj
  have HD := Aside0.mk (fun w1 (h : Duo w0 w1 b c x o n X X) => h.move HF.out.len i j)
  rw [nMove_no (fun h => hj h.2)] at HD
  clear hi hj
  go_enter Try.func16, Try.ntmps16
  go_wp2_with (first | ((with_reducible refine gate_dst (N := 5) rfl ?_); refine box_event ?hg (N := 5) ?hd (cs := #[.int .i64 6, .int .i64 i, .int .i64 j, .int .i64 m.f0, .int .i64 m.f1, .string m.f2, .bool all]) (t := 41) ?hr ?_; (case hd => rfl); (case hg => rfl); (case hr => first | (go_simp; done) | (go_simp; rfl)); intro gA hgA w1 hbox hb1; have HB := Aside0.mk (DuoB.mk (H0.out.quiet (Chg.of_below hb1 _)) hbox (H0.out.away (Nat.le_of_eq hgA.symm)) (Chg.of_below hb1 _)); obtain ⟨d0, d1, d2, d3, d4, d5, d6, f0, f1, f2, f3, f4, f5, f6⟩ := box7 hbox; have lgA := blk_lt hbox; clear hb1 hbox hgA) | (go_at_call 30; (with_reducible refine (HB.out.duo.ris_yes HI.out).mono ?_); rintro e w2 ⟨rfl, rfl⟩; clear HI) | (go_at_call 30; (with_reducible refine (HB.out.duo.ris_no HJ.out).mono ?_); rintro e w2 ⟨rfl, rfl⟩) | (go_at_call 11; (with_reducible refine (HB.out.call (HD.out _ HB.out.duo)).mono ?_); rintro e w2 ⟨rfl, hB⟩; clear lgA d0 d1 d2 d3 d4 d5 d6 f0 f1 f2 f3 f4 f5 f6; have n0 := Aside0.mk hB; clear HB hB; have HB := n0; clear n0; obtain ⟨d0, d1, d2, d3, d4, d5, d6, f0, f1, f2, f3, f4, f5, f6⟩ := box7 HB.out.box; have lgA := blk_lt HB.out.box))
  go_ret
  exact ⟨rfl, HB.out.duo.more (Nat.le_succ _), HB.out.chg⟩
set_option maxHeartbeats 4000000 in
set_option maxRecDepth 100000 in
theorem do_move (w0 w : World) (b c x o n : Nat) (X : Nt) (m : Msg) (all : Bool) (h0 : Duo w0 w b c x o n X X) (hF : Fine X) (k j : Nat) (hk : k < X.l.length) (hj : j < X.l.length) :
    Calls Try.prog 16 #[.pointer (some ⟨b, 0, none⟩), .pointer (some ⟨x, 0, none⟩), .agg #[.int .i64 6, .int .i64 (k : Int), .int .i64 (j : Int), .int .i64 m.f0, .int .i64 m.f1, .string m.f2, .bool all]] w fun e w' => e = .returned (.bool true) ∧ Duo w0 w' b c x o (n + 1) ({ X with l := insL (takeL X.l k) j (X.l[k]'hk) }) ({ X with l := insL (takeL X.l k) j (X.l[k]'hk) }) ∧ Chg (SD b c x o) w w' := by
  have H0 := Aside0.mk h0
  have HF := Aside0.mk hF
  clear h0 hF
  have HD := Aside0.mk (fun w1 (h : Duo w0 w1 b c x o n X { X with l := insL (takeL X.l k) j (X.l[k]'hk) }) => h.move HF.out.len k j)
  rw [nMove_yes hk hj] at HD
  obtain ⟨mm, hmm⟩ : ∃ mm, X.l[k]'hk = mm := ⟨_, rfl⟩
  rw [hmm] at HD ⊢
  have HK := Aside0.mk hk
  have HJ := Aside0.mk hj
  have HT := Aside0.mk (fun w1 (h : Duo w0 w1 b c x o n X X) => h.rtake k HK.out HF.out.len)
  rw [hmm] at HT
  have hlk := takeL_len hk
  have HL : Aside0 ((takeL X.l k).length ≤ 256) := ⟨by have := HF.out.len; omega⟩
  have HJL : Aside0 (j ≤ (takeL X.l k).length) := ⟨by omega⟩
  have hj0 : (0 : Int) ≤ (j : Int) := by omega
  clear hmm hk hj hlk
  go_enter Try.func16, Try.ntmps16
  go_wp2_with (first | ((with_reducible refine gate_dst (N := 5) rfl ?_); refine box_event ?hg (N := 5) ?hd (cs := #[.int .i64 6, .int .i64 (k : Int), .int .i64 (j : Int), .int .i64 m.f0, .int .i64 m.f1, .string m.f2, .bool all]) (t := 41) ?hr ?_; (case hd => rfl); (case hg => rfl); (case hr => first | (go_simp; done) | (go_simp; rfl)); intro gA hgA w1 hbox hb1; have HB := Aside0.mk (DuoB.mk (H0.out.quiet (Chg.of_below hb1 _)) hbox (H0.out.away (Nat.le_of_eq hgA.symm)) (Chg.of_below hb1 _)); obtain ⟨d0, d1, d2, d3, d4, d5, d6, f0, f1, f2, f3, f4, f5, f6⟩ := box7 hbox; have lgA := blk_lt hbox; clear hb1 hbox hgA) | (go_at_call 30; (with_reducible refine (HB.out.duo.ris_yes (is_nat HK.out)).mono ?_); rintro e w2 ⟨rfl, rfl⟩) | (go_at_call 30; (with_reducible refine (HB.out.duo.ris_yes (is_nat HJ.out)).mono ?_); rintro e w2 ⟨rfl, rfl⟩) | (go_at_call 31; (with_reducible refine (HB.out.call (HT.out _ HB.out.duo)).mono ?_); rintro e w2 ⟨rfl, hB⟩; clear lgA d0 d1 d2 d3 d4 d5 d6 f0 f1 f2 f3 f4 f5 f6; have n0 := Aside0.mk hB; clear HB hB; have HB := n0; clear n0; obtain ⟨d0, d1, d2, d3, d4, d5, d6, f0, f1, f2, f3, f4, f5, f6⟩ := box7 HB.out.box; have lgA := blk_lt HB.out.box))
  obtain ⟨W, hW⟩ : ∃ W, w2.alloc (.cells #[.int .i64 mm.f0, .int .i64 mm.f1, .string mm.f2] 30 (0, 0)) = W := ⟨_, rfl⟩
  have n0 : Aside0 (DuoB w0 w W b c x o n X { X with l := takeL X.l k } gA #[.int .i64 6, .int .i64 (k : Int), .int .i64 (j : Int), .int .i64 m.f0, .int .i64 m.f1, .string m.f2, .bool all] 41) := ⟨hW ▸ HB.out.quiet ((Chg.refl _ _).alloc _)⟩
  have hM : W.heap[w2.heap.size]? = some (.cells #[.int .i64 mm.f0, .int .i64 mm.f1, .string mm.f2] 30 (0, 0)) := hW ▸ blk_new _ _
  rw [hW]
  generalize w2.heap.size = g2 at *
  clear hW HB d0 d1 d2 d3 d4 d5 d6 f0 f1 f2 f3 f4 f5 f6
  have HB := n0
  clear n0
  obtain ⟨d0, d1, d2, d3, d4, d5, d6, f0, f1, f2, f3, f4, f5, f6⟩ := box7 HB.out.box
  obtain ⟨y0, y1, y2, -, -, -⟩ := box3 hM
  have lm := blk_lt hM
  obtain ⟨-, ⟨A, kk, t1, -, hR⟩, -, -, hfz⟩ := HB.out.duo.ref.open
  have tf := hfz 1
  have lx := HB.out.duo.lt.2.2.1
  have lg := blk_lt HB.out.box
  have HN : Aside0 (∀ k, W.heap.size ≤ k → okD b c x o k) := ⟨HB.out.duo.old⟩
  obtain ⟨l, hl⟩ : ∃ l, takeL X.l k = l := ⟨_, rfl⟩
  have HXL := Aside0.mk hl
  simp only [hl] at HL HJL t1 hR
  obtain ⟨hs1, hR1⟩ := hR.head (j := j) HJL.out
  obtain ⟨A2, hs2, hR2⟩ := hR.cut (j := j) HJL.out
  have HR1 := Aside0.mk hR1
  have HR2 := Aside0.mk hR2
  clear hl hR hR1 hR2 hfz hM
  refine wp_tree (.op 0 0 126 (.op 2 0 128 (.op 3 0 129 (.op 4 0 130 (.op 5 0 131 (.op 6 0 132 (.op 7 0 133 (.op 8 0 134 (.op 10 0 136 (.op 13 0 139 (.op 14 0 140 (.op 15 0 141 (.op 16 0 142 (.op 17 0 143 (.op 18 0 144 (.op 19 0 145 (.two 1 127 11 137 (.two 9 135 11 137 (.op 11 2 137 (.op 12 2 138 (.op 20 2 146 (.op 21 1 147 (.op 22 1 148 (.op 23 3 0 PT.nil)))))) (.op 9 2 135 (.op 12 2 138 (.op 20 2 146 (.op 21 1 147 (.op 22 1 148 (.op 23 3 0 PT.nil))))))) (.op 1 2 127 (.op 9 2 135 (.op 12 2 138 (.op 20 2 146 (.op 21 1 147 (.op 22 1 148 (.op 23 3 0 PT.nil)))))))))))))))))))))))) [23] (fun W' => W'.cell? ⟨x, 1, none⟩ = some (.slice A l.length kk) ∧ W'.cell? ⟨gA, 2, none⟩ = some (.int .i64 (j : Int)) ∧ W'.cell? ⟨g2, 0, none⟩ = some (.int .i64 mm.f0) ∧ W'.cell? ⟨g2, 1, none⟩ = some (.int .i64 mm.f1) ∧ W'.cell? ⟨g2, 2, none⟩ = some (.string mm.f2)) (by kernel_rfl) rfl (by kernel_rfl) (fun _ t _ _ _ h => by cases t <;> exact h) ⟨t1, d2, y0, y1, y2⟩ (fun hS => ?_)
  repeat (refine RT.take (v := ?_) (a' := ?_) rfl rfl (by assumption) (Or.inl ⟨by rfl, ?_⟩) ?_ ?_; rotate_left; (focus (rintro w' ⟨hS0, hS1, hS2, hS3, hS4⟩; go_simp; with_reducible rfl)); rotate_left; (focus (simp only [Act.put, List.setIfInBounds_toArray, List.set_cons_zero, List.set_cons_succ, i64_w, i32_w]; rfl)))
  have hk0 := (Chg.refl (fun _ => False) W).drewN 1
  refine RT.join3 (r := (.op 12 2 138 (.op 20 2 146 (.op 21 1 147 (.op 22 1 148 (.op 23 3 0 PT.nil)))))) 127 135 137 (fun v1 v2 g w' => Chg (fun _ => False) W w' ∧ Kd.R kM 30 w' W.heap.size (okD b c x o) v2 (l.take j) ∧ w'.heap[g]? = some (.cells #[.int .i64 mm.f0, .int .i64 mm.f1, .string mm.f2] 30 (0, 0))) (fun v1 v2 g wJ hF => ?_) (fun hcont => ?_)
  rotate_left
  · refine RT.fork rfl rfl rfl rfl (fun K hK => ?_) (fun K hK => ?_)
    · refine Kd.R_lit_step (w0 := W) kM W.heap.size 30 (by rfl) (N := 127) (by rfl) (xs := ([] : List Msg)) (inner := []) (ok := (okD b c x o)) (okp := (okD b c x o)) ?_ (Reps.none _ _) (fun _ h => h) (HN.out _ hk0.low.size) hk0.bel hk0.low.size (by simp) ?_
      · go_simp
      intro v1 w1 ho1 hb1 hg1 hat1
      have hk1 := hk0.grown hg1 (fun k e => by cases e)
      refine hK.out _ _ ⟨(hk1.cell (p := ⟨x, 1, none⟩) lx).trans t1, (hk1.cell (p := ⟨gA, 2, none⟩) lg).trans d2, (hk1.cell (p := ⟨g2, 0, none⟩) lm).trans y0, (hk1.cell (p := ⟨g2, 1, none⟩) lm).trans y1, (hk1.cell (p := ⟨g2, 2, none⟩) lm).trans y2⟩ (fun hS => ?_)
      clear hK K
      refine RT.norm (a' := ?_) ?_ ?_
      rotate_left
      · show Act.put _ (some 127) _ = _
        simp only [Act.put, List.setIfInBounds_toArray, List.set_cons_zero, List.set_cons_succ, i64_w, i32_w]
        rfl
      refine RT.fork rfl rfl rfl rfl (fun K hK => ?_) (fun K hK => ?_)
      · refine Kd.R_append_rows_step kM (Rr := kM.K _) W.heap.size (by rfl) (.tmp 127) (.tmp 134) 22 30 (.agg #[.int .i64 0, .int .i64 0, .string ⟨#[]⟩]) 32 (by rfl) Try.underlying22 infoM rfl (by decide) (by decide) v1 [] (l.take j) A j kk (okD b c x o) (fun _ => False) (by rfl) (by rfl) ho1 (HR1.out.chg hk1 (fun _ _ h => h)).fC (fun x cs h => msgKM x cs h) (fun _ h => h.elim) (fun k hk => HN.out k (Nat.le_trans hk1.low.size hk)) hk1.bel hk1.low.size (by have := HL.out; have := HJL.out; simp; omega) ?_
        intro v2 w2 ho2 hb2 hg2 hat2
        rw [List.nil_append] at ho2
        have hk2 := hk1.grownN hg2 (fun k e => Kd.R_base ho1 k e)
        refine hK.out _ _ ⟨(hk2.cell (p := ⟨x, 1, none⟩) lx).trans t1, (hk2.cell (p := ⟨gA, 2, none⟩) lg).trans d2, (hk2.cell (p := ⟨g2, 0, none⟩) lm).trans y0, (hk2.cell (p := ⟨g2, 1, none⟩) lm).trans y1, (hk2.cell (p := ⟨g2, 2, none⟩) lm).trans y2⟩ (fun hS => ?_)
        clear hK K
        refine RT.norm (a' := ?_) ?_ ?_
        rotate_left
        · show Act.put _ (some 135) _ = _
          simp only [Act.put, List.setIfInBounds_toArray, List.set_cons_zero, List.set_cons_succ, i64_w, i32_w]
          rfl
        refine RT.one rfl rfl (fun K hK => ?_)
        go_simp
        have hk3 := hk2.alloc (.cells #[.int .i64 mm.f0, .int .i64 mm.f1, .string mm.f2] 30 (0, 0))
        have ho3 := Kd.R_alloc ho2 (.cells #[.int .i64 mm.f0, .int .i64 mm.f1, .string mm.f2] 30 (0, 0))
        have hn_g3 : ∀ k, v2.ownBlock = some k → k ≠ _ := fun k e => Nat.ne_of_lt (R_lt ho2 e)
        refine hK.out _ _ ⟨(hk3.cell (p := ⟨x, 1, none⟩) lx).trans t1, (hk3.cell (p := ⟨gA, 2, none⟩) lg).trans d2, (hk3.cell (p := ⟨g2, 0, none⟩) lm).trans y0, (hk3.cell (p := ⟨g2, 1, none⟩) lm).trans y1, (hk3.cell (p := ⟨g2, 2, none⟩) lm).trans y2⟩ (fun hS => ?_)
        clear hK K
        refine RT.norm ?_ (hcont v1 v2 _ _ ⟨hk3, ho3, blk_new _ _⟩)
        first | rfl | (simp only [Act.put, List.setIfInBounds_toArray, List.set_cons_zero, List.set_cons_succ]; done) | (simp only [Act.put, List.setIfInBounds_toArray, List.set_cons_zero, List.set_cons_succ]; rfl)
      · go_simp
        have hk4 := hk1.alloc (.cells #[.int .i64 mm.f0, .int .i64 mm.f1, .string mm.f2] 30 (0, 0))
        have ho4 := Kd.R_alloc ho1 (.cells #[.int .i64 mm.f0, .int .i64 mm.f1, .string mm.f2] 30 (0, 0))
        have hn_g4 : ∀ k, v1.ownBlock = some k → k ≠ _ := fun k e => Nat.ne_of_lt (R_lt ho1 e)
        refine hK.out _ _ ⟨(hk4.cell (p := ⟨x, 1, none⟩) lx).trans t1, (hk4.cell (p := ⟨gA, 2, none⟩) lg).trans d2, (hk4.cell (p := ⟨g2, 0, none⟩) lm).trans y0, (hk4.cell (p := ⟨g2, 1, none⟩) lm).trans y1, (hk4.cell (p := ⟨g2, 2, none⟩) lm).trans y2⟩ (fun hS => ?_)
        have hb_g4 := blk_new w1 (.cells #[.int .i64 mm.f0, .int .i64 mm.f1, .string mm.f2] 30 (0, 0))
        clear hK K
        refine RT.one rfl rfl (fun K hK => ?_)
        refine Kd.R_append_rows_step kM (Rr := kM.K _) W.heap.size (by rfl) (.tmp 127) (.tmp 134) 22 30 (.agg #[.int .i64 0, .int .i64 0, .string ⟨#[]⟩]) 32 (by rfl) Try.underlying22 infoM rfl (by decide) (by decide) v1 [] (l.take j) A j kk (okD b c x o) (fun _ => False) (by rfl) (by rfl) ho4 (HR1.out.chg hk4 (fun _ _ h => h)).fC (fun x cs h => msgKM x cs h) (fun _ h => h.elim) (fun k hk => HN.out k (Nat.le_trans hk4.low.size hk)) hk4.bel hk4.low.size (by have := HL.out; have := HJL.out; simp; omega) ?_
        intro v5 w5 ho5 hb5 hg5 hat5
        rw [List.nil_append] at ho5
        have hk5 := hk4.grownN hg5 (fun k e => Kd.R_base ho4 k e)
        have hb_g5 := (hg5.block _ (blk_lt hb_g4) (fun e => hn_g4 _ e.symm rfl)).trans hb_g4
        have hn_g5 : ∀ k, v5.ownBlock = some k → k ≠ w1.heap.size := fun k e => by rcases hat5 with h1 | ⟨q, h1, h2⟩; exact hn_g4 k (h1 ▸ e); rw [h1] at e; cases e; have := blk_lt hb_g4; omega
        refine hK.out _ _ ⟨(hk5.cell (p := ⟨x, 1, none⟩) lx).trans t1, (hk5.cell (p := ⟨gA, 2, none⟩) lg).trans d2, (hk5.cell (p := ⟨g2, 0, none⟩) lm).trans y0, (hk5.cell (p := ⟨g2, 1, none⟩) lm).trans y1, (hk5.cell (p := ⟨g2, 2, none⟩) lm).trans y2⟩ (fun hS => ?_)
        clear hK K
        refine RT.norm ?_ (hcont v1 v5 _ _ ⟨hk5, ho5, hb_g5⟩)
        first | rfl | (simp only [Act.put, List.setIfInBounds_toArray, List.set_cons_zero, List.set_cons_succ]; done) | (simp only [Act.put, List.setIfInBounds_toArray, List.set_cons_zero, List.set_cons_succ]; rfl)
    · go_simp
      have hk6 := hk0.alloc (.cells #[.int .i64 mm.f0, .int .i64 mm.f1, .string mm.f2] 30 (0, 0))
      refine hK.out _ _ ⟨(hk6.cell (p := ⟨x, 1, none⟩) lx).trans t1, (hk6.cell (p := ⟨gA, 2, none⟩) lg).trans d2, (hk6.cell (p := ⟨g2, 0, none⟩) lm).trans y0, (hk6.cell (p := ⟨g2, 1, none⟩) lm).trans y1, (hk6.cell (p := ⟨g2, 2, none⟩) lm).trans y2⟩ (fun hS => ?_)
      have hb_g6 := blk_new (W.drewN 1) (.cells #[.int .i64 mm.f0, .int .i64 mm.f1, .string mm.f2] 30 (0, 0))
      clear hK K
      refine RT.one rfl rfl (fun K hK => ?_)
      refine Kd.R_lit_step (w0 := W) kM W.heap.size 30 (by rfl) (N := 127) (by rfl) (xs := ([] : List Msg)) (inner := []) (ok := (okD b c x o)) (okp := (okD b c x o)) ?_ (Reps.none _ _) (fun _ h => h) (HN.out _ hk6.low.size) hk6.bel hk6.low.size (by simp) ?_
      · go_simp
      intro v7 w7 ho7 hb7 hg7 hat7
      have hk7 := hk6.grown hg7 (fun k e => by cases e)
      have hb_g7 := (hg7.block _ (blk_lt hb_g6) (by simp)).trans hb_g6
      have hn_g7 : ∀ k, v7.ownBlock = some k → k ≠ (W.drewN 1).heap.size := fun k e => by obtain ⟨q, h1, h2⟩ := hat7; rw [h1] at e; cases e; have := blk_lt hb_g6; omega
      refine hK.out _ _ ⟨(hk7.cell (p := ⟨x, 1, none⟩) lx).trans t1, (hk7.cell (p := ⟨gA, 2, none⟩) lg).trans d2, (hk7.cell (p := ⟨g2, 0, none⟩) lm).trans y0, (hk7.cell (p := ⟨g2, 1, none⟩) lm).trans y1, (hk7.cell (p := ⟨g2, 2, none⟩) lm).trans y2⟩ (fun hS => ?_)
      clear hK K
      refine RT.norm (a' := ?_) ?_ ?_
      rotate_left
      · show Act.put _ (some 127) _ = _
        simp only [Act.put, List.setIfInBounds_toArray, List.set_cons_zero, List.set_cons_succ, i64_w, i32_w]
        rfl
      refine RT.one rfl rfl (fun K hK => ?_)
      refine Kd.R_append_rows_step kM (Rr := kM.K _) W.heap.size (by rfl) (.tmp 127) (.tmp 134) 22 30 (.agg #[.int .i64 0, .int .i64 0, .string ⟨#[]⟩]) 32 (by rfl) Try.underlying22 infoM rfl (by decide) (by decide) v7 [] (l.take j) A j kk (okD b c x o) (fun _ => False) (by rfl) (by rfl) ho7 (HR1.out.chg hk7 (fun _ _ h => h)).fC (fun x cs h => msgKM x cs h) (fun _ h => h.elim) (fun k hk => HN.out k (Nat.le_trans hk7.low.size hk)) hk7.bel hk7.low.size (by have := HL.out; have := HJL.out; simp; omega) ?_
      intro v8 w8 ho8 hb8 hg8 hat8
      rw [List.nil_append] at ho8
      have hk8 := hk7.grownN hg8 (fun k e => Kd.R_base ho7 k e)
      have hb_g8 := (hg8.block _ (blk_lt hb_g7) (fun e => hn_g7 _ e.symm rfl)).trans hb_g7
      have hn_g8 : ∀ k, v8.ownBlock = some k → k ≠ (W.drewN 1).heap.size := fun k e => by rcases hat8 with h1 | ⟨q, h1, h2⟩; exact hn_g7 k (h1 ▸ e); rw [h1] at e; cases e; have := blk_lt hb_g7; omega
      refine hK.out _ _ ⟨(hk8.cell (p := ⟨x, 1, none⟩) lx).trans t1, (hk8.cell (p := ⟨gA, 2, none⟩) lg).trans d2, (hk8.cell (p := ⟨g2, 0, none⟩) lm).trans y0, (hk8.cell (p := ⟨g2, 1, none⟩) lm).trans y1, (hk8.cell (p := ⟨g2, 2, none⟩) lm).trans y2⟩ (fun hS => ?_)
      clear hK K
      refine RT.norm ?_ (hcont v7 v8 _ _ ⟨hk8, ho8, hb_g8⟩)
      first | rfl | (simp only [Act.put, List.setIfInBounds_toArray, List.set_cons_zero, List.set_cons_succ]; done) | (simp only [Act.put, List.setIfInBounds_toArray, List.set_cons_zero, List.set_cons_succ]; rfl)
  obtain ⟨hkJ, hoJ, hbJ⟩ := hF
  refine RT.norm (a' := ?_) ?_ ?_
  rotate_left
  · simp only [Act.put, List.setIfInBounds_toArray, List.set_cons_zero, List.set_cons_succ, i64_w, i32_w]
    rfl
  refine RT.one rfl rfl (fun K hK => ?_)
  refine Kd.R_append_rows_step kM (Rr := kM.K _) W.heap.size (by rfl) (.tmp 135) (.tmp 137) 22 30 (.agg #[.int .i64 0, .int .i64 0, .string ⟨#[]⟩]) 32 (by rfl) Try.underlying22 infoM rfl (by decide) (by decide) v2 (l.take j) [mm] (some ⟨g, 0, none⟩) 1 1 (okD b c x o) (fun _ => False) (by rfl) (by rfl) hoJ (one_rows hbJ) (fun x cs h => msgKM x cs h) (fun _ h => h.elim) (fun k hk => HN.out k (Nat.le_trans hkJ.low.size hk)) hkJ.bel hkJ.low.size (by have := HL.out; have := HJL.out; simp; omega) ?_
  intro v9 w9 ho9 hb9 hg9 hat9
  have hk9 := hkJ.grownN hg9 (fun k e => Kd.R_base hoJ k e)
  refine hK.out _ _ ⟨(hk9.cell (p := ⟨x, 1, none⟩) lx).trans t1, (hk9.cell (p := ⟨gA, 2, none⟩) lg).trans d2, (hk9.cell (p := ⟨g2, 0, none⟩) lm).trans y0, (hk9.cell (p := ⟨g2, 1, none⟩) lm).trans y1, (hk9.cell (p := ⟨g2, 2, none⟩) lm).trans y2⟩ (fun hS => ?_)
  clear hK K
  refine RT.norm (a' := ?_) ?_ ?_
  rotate_left
  · show Act.put _ (some 138) _ = _
    simp only [Act.put, List.setIfInBounds_toArray, List.set_cons_zero, List.set_cons_succ, i64_w, i32_w]
    rfl
  refine RT.one rfl rfl (fun K hK => ?_)
  refine Kd.R_append_rows_step kM (Rr := kM.K _) W.heap.size (by rfl) (.tmp 138) (.tmp 145) 22 30 (.agg #[.int .i64 0, .int .i64 0, .string ⟨#[]⟩]) 32 (by rfl) Try.underlying22 infoM rfl (by decide) (by decide) v9 ((l.take j) ++ [mm]) (l.drop j) A2 (l.length - j) (kk - j) (okD b c x o) (fun _ => False) (by rfl) (by rfl) ho9 (HR2.out.chg hk9 (fun _ _ h => h)).fC (fun x cs h => msgKM x cs h) (fun _ h => h.elim) (fun k hk => HN.out k (Nat.le_trans hk9.low.size hk)) hk9.bel hk9.low.size (by have := HL.out; have := HJL.out; simp; omega) ?_
  intro v10 w10 ho10 hb10 hg10 hat10
  have hk10 := hk9.grownN hg10 (fun k e => Kd.R_base ho9 k e)
  refine hK.out _ _ ⟨(hk10.cell (p := ⟨x, 1, none⟩) lx).trans t1, (hk10.cell (p := ⟨gA, 2, none⟩) lg).trans d2, (hk10.cell (p := ⟨g2, 0, none⟩) lm).trans y0, (hk10.cell (p := ⟨g2, 1, none⟩) lm).trans y1, (hk10.cell (p := ⟨g2, 2, none⟩) lm).trans y2⟩ (fun hS => ?_)
  clear hK K
  have HOF := Aside0.mk ho10
  have HKF := Aside0.mk hk10
  have hcz := (hk10.cell (p := ⟨x, 1, none⟩) lx).trans t1
  have hfz := (hk10.frozen (p := ⟨x, 1, none⟩) lx).trans tf
  obtain ⟨A4, n4, c4, hv4⟩ : ∃ A4 n4 c4, v10 = .slice A4 n4 c4 := by
    obtain ⟨A4, c4, e⟩ := Kd.R_slice HOF.out
    exact ⟨A4, _, c4, e⟩
  subst hv4
  clear hk0
  refine RT.norm (a' := ?_) ?_ ?_
  rotate_left
  · show Act.put _ (some 146) _ = _
    simp only [Act.put, List.setIfInBounds_toArray, List.set_cons_zero, List.set_cons_succ, i64_w, i32_w]
    rfl
  repeat (refine RT.pure (v := ?_) (a' := ?_) rfl rfl (Or.inl ⟨by rfl, ?_⟩) ?_ ?_; rotate_left; (focus (intro w'; go_simp; with_reducible rfl)); rotate_left; (focus (simp only [Act.put, List.setIfInBounds_toArray, List.set_cons_zero, List.set_cons_succ, i64_w, i32_w]; rfl)))
  refine RT.last rfl rfl (fun K hK => ?_)
  go_simp
  refine hK.out _ _ (RT.nil ?_)
  clear hK K hS
  have HINS : Aside0 (Kd.R kM 30 w10 W.heap.size (okD b c x o) (.slice A4 n4 c4) (insL (takeL X.l k) j mm)) := ⟨by rw [HXL.out]; have h := HOF.out; simpa [insL] using h⟩
  clear HOF
  have HOF := HINS
  have HB2 := Aside0.mk ((HB.out.quiet HKF.out).of ((HB.out.quiet HKF.out).duo.rrow (Kd.R_V HOF.out)))
  clear HB hcz hfz t1 tf d0 d1 d2 d3 d4 d5 d6 f0 f1 f2 f3 f4 f5 f6
  have HB := HB2
  clear HB2
  obtain ⟨d0, d1, d2, d3, d4, d5, d6, f0, f1, f2, f3, f4, f5, f6⟩ := box7 HB.out.box
  clear y0 y1 y2 lm lx lg
  go_wp2_with (first | (go_at_call 11; (with_reducible refine (HB.out.call (HD.out _ HB.out.duo)).mono ?_); rintro e w2 ⟨rfl, hB⟩; clear lgA d0 d1 d2 d3 d4 d5 d6 f0 f1 f2 f3 f4 f5 f6; have n0 := Aside0.mk hB; clear HB hB; have HB := n0; clear n0; obtain ⟨d0, d1, d2, d3, d4, d5, d6, f0, f1, f2, f3, f4, f5, f6⟩ := box7 HB.out.box; have lgA := blk_lt HB.out.box))
  go_ret
  exact ⟨rfl, HB.out.duo.more (Nat.le_succ _), HB.out.chg⟩

end Go.Proofs.Ytclmhodgfhkgcaa.Q

/- The contract of do: every other kind. (Printed by gen_do.py.) -/
namespace Go.Proofs.Ytclmhodgfhkgcaa.Q
open Go.RowKit Go.Proofs.YtclmhodgfhkgcaaW.PrintWords Go.Proofs.YtclmhodgfhkgcaaW.PrintLast Go.Proofs.YtclmhodgfhkgcaaW.PrintMore
set_option linter.unusedVariables false
set_option linter.unusedSimpArgs false
attribute [local go_sem high] eqA30
theorem nDeliver_no {X : Nt} {i : Int} (h : ¬ Is X i) : nDeliver X i = ((zM, 3), X) := if_neg h
theorem nDeliver_cut {X : Nt} {k : Nat} (h : k < X.l.length) (hc : isCut X X.l[k].f0 X.l[k].f1 = true) : nDeliver X k = ((zM, 11), { X with l := takeL X.l k, lost := X.lost + 1 }) := by
  unfold nDeliver
  have e : upB X (rdM X.l (k : Int)).f0 (rdM X.l (k : Int)).f1 = false := by
    rw [rdM_nat h]
    unfold upB
    rw [hc, Bool.not_true, Bool.and_false]
  rw [if_pos (is_nat h), if_neg (by rw [e]; decide)]
  rfl
theorem nDeliver_ok {X : Nt} {k : Nat} (h : k < X.l.length) (h2 : Two X X.l[k].f0 X.l[k].f1) (hc : isCut X X.l[k].f0 X.l[k].f1 = false) : nDeliver X k = ((X.l[k], 0), { X with l := takeL X.l k }) := by
  unfold nDeliver
  have e : upB X (rdM X.l (k : Int)).f0 (rdM X.l (k : Int)).f1 = true := by
    rw [rdM_nat h]
    unfold upB
    rw [hc, decide_eq_true h2]
    rfl
  rw [if_pos (is_nat h), if_pos e, rdM_nat h]
  rfl
theorem Duo.rcut {w0 w : World} {b c x o n : Nat} {X Y : Nt} (h : Duo w0 w b c x o n X Y) {p q : Int} (hp : Nd p) (hq : Nd q) : Calls Try.prog 20 #[.pointer (some ⟨x, 0, none⟩), .int .i64 p, .int .i64 q] w fun e w' => e = .returned (.bool (isCut Y p q)) ∧ w = w' := rCut_calls _ x o Y p q w h.ref hp hq
theorem Duo.rtake0 {w0 w : World} {b c x o n : Nat} {X Y : Nt} (h : Duo w0 w b c x o n X Y) (hi : 0 < Y.l.length) (hl : Y.l.length ≤ 256) : Calls Try.prog 31 #[.pointer (some ⟨x, 0, none⟩), .int .i64 0] w fun e w' => e = .returned (MsgV (Y.l[0]'hi)) ∧ Duo w0 w' b c x o n X { Y with l := takeL Y.l 0 } ∧ Chg (SD b c x o) w w' := h.rtake 0 hi hl
theorem is_zero {X : Nt} (h : 0 < X.l.length) : Is X 0 := is_nat h
def Other (kd : Int) : Prop := kd ≠ 0 ∧ kd ≠ 1 ∧ kd ≠ 2 ∧ kd ≠ 3 ∧ kd ≠ 4 ∧ kd ≠ 5 ∧ kd ≠ 6 ∧ kd ≠ 7 ∧ kd ≠ 8
set_option maxHeartbeats 4000000 in
set_option maxRecDepth 100000 in
theorem do_del_no (w0 w : World) (b c x o n : Nat) (X : Nt) (i j : Int) (m : Msg) (all : Bool) (h0 : Duo w0 w b c x o n X X) (hF : Fine X) (hi : ¬ Is X i) :
    Calls Try.prog 16 #[.pointer (some ⟨b, 0, none⟩), .pointer (some ⟨x, 0, none⟩), .agg #[.int .i64 3, .int .i64 i, .int .i64 j, .int .i64 m.f0, .int .i64 m.f1, .string m.f2, .bool all]] w fun e w' => e = .returned (.bool true) ∧ Duo w0 w' b c x o (n + 1) (X) (X) ∧ Chg (SD b c x o) w w' := by
  have H0 := Aside0.mk h0
  have HF := Aside0.mk hF
  clear h0 hF
  have q1 : (zM.f2.toList == []) = true := by kernel_rfl
  have q2 : (([] : List UInt8) == zM.f2.toList) = true := by kernel_rfl
  have hu30 := Try.underlying30
  have HI := Aside0.mk hi
  have HD := Aside0.mk (fun w1 (h : Duo w0 w1 b c x o n X X) => h.deliver HF.out i)
  rw [nDeliver_no hi] at HD
  clear hi
  go_enter Try.func16, Try.ntmps16
  go_wp2_with (first | ((with_reducible refine gate_dst (N := 5) rfl ?_); refine box_event ?hg (N := 5) ?hd (cs := #[.int .i64 3, .int .i64 i, .int .i64 j, .int .i64 m.f0, .int .i64 m.f1, .string m.f2, .bool all]) (t := 41) ?hr ?_; (case hd => rfl); (case hg => rfl); (case hr => first | (go_simp; done) | (go_simp; rfl)); intro gA hgA w1 hbox hb1; have HB := Aside0.mk (DuoB.mk (H0.out.quiet (Chg.of_below hb1 _)) hbox (H0.out.away (Nat.le_of_eq hgA.symm)) (Chg.of_below hb1 _)); obtain ⟨d0, d1, d2, d3, d4, d5, d6, f0, f1, f2, f3, f4, f5, f6⟩ := box7 hbox; have lgA := blk_lt hbox; clear hb1 hbox hgA) | (go_at_call 14; (with_reducible refine (HB.out.call (HD.out _ HB.out.duo)).mono ?_); rintro e w2 ⟨rfl, hB⟩; clear lgA d0 d1 d2 d3 d4 d5 d6 f0 f1 f2 f3 f4 f5 f6; have n0 := Aside0.mk hB; clear HB hB; have HB := n0; clear n0; obtain ⟨d0, d1, d2, d3, d4, d5, d6, f0, f1, f2, f3, f4, f5, f6⟩ := box7 HB.out.box; have lgA := blk_lt HB.out.box; have BM := Aside0.mk (blk_new w2 (.cells #[.int .i64 zM.f0, .int .i64 zM.f1, .string zM.f2] 30 (0, 0))); have AW := Aside0.mk (HB.out.duo.away (Nat.le_refl _)); obtain ⟨z0, z1, z2, -⟩ := box3 BM.out; clear HD) | (go_at_call 30; (with_reducible refine ((HB.out.quiet ((Chg.refl (fun _ => False) _).alloc (.cells #[.int .i64 zM.f0, .int .i64 zM.f1, .string zM.f2] 30 (0, 0)))).duo.ris_no HI.out).mono ?_); rintro e w2 ⟨rfl, rfl⟩))
  go_ret
  exact ⟨rfl, (HB.out.duo.quiet ((Chg.refl _ _).alloc _)).more (Nat.le_succ _), HB.out.chg.alloc _⟩
set_option maxHeartbeats 4000000 in
set_option maxRecDepth 100000 in
theorem do_del_cut (w0 w : World) (b c x o n : Nat) (X : Nt) (j : Int) (m : Msg) (all : Bool) (h0 : Duo w0 w b c x o n X X) (hF : Fine X) (k : Nat) (hk : k < X.l.length) (h2 : Two X (X.l[k]'hk).f0 (X.l[k]'hk).f1) (hc : isCut X (X.l[k]'hk).f0 (X.l[k]'hk).f1 = true) :
    Calls Try.prog 16 #[.pointer (some ⟨b, 0, none⟩), .pointer (some ⟨x, 0, none⟩), .agg #[.int .i64 3, .int .i64 (k : Int), .int .i64 j, .int .i64 m.f0, .int .i64 m.f1, .string m.f2, .bool all]] w fun e w' => e = .returned (.bool true) ∧ Duo w0 w' b c x o (n + 1) ({ X with l := takeL X.l k, lost := X.lost + 1 }) ({ X with l := takeL X.l k, lost := X.lost + 1 }) ∧ Chg (SD b c x o) w w' := by
  have H0 := Aside0.mk h0
  have HF := Aside0.mk hF
  clear h0 hF
  have q1 : (zM.f2.toList == []) = true := by kernel_rfl
  have q2 : (([] : List UInt8) == zM.f2.toList) = true := by kernel_rfl
  have hu30 := Try.underlying30
  have HK := Aside0.mk hk
  have HND : Aside0 (Nd (X.l[k]'hk).f0 ∧ Nd (X.l[k]'hk).f1) := ⟨by have := HF.out.few; unfold Two at h2; unfold Few at this; unfold Nd; omega⟩
  have l0 := HF.out.l0
  have l1 := HF.out.l1
  have HD := Aside0.mk (fun w1 (h : Duo w0 w1 b c x o n X X) => h.deliver HF.out (k : Int))
  rw [nDeliver_cut hk hc] at HD
  obtain ⟨mm, hmm⟩ : ∃ mm, X.l[k]'hk = mm := ⟨_, rfl⟩
  simp only [hmm] at HD HND hc h2
  have HMM := Aside0.mk (show X.l[k]'HK.out = mm from hmm)
  have HCC := Aside0.mk hc
  clear hmm hk h2 hc
  go_enter Try.func16, Try.ntmps16
  go_wp2_with (first | ((with_reducible refine gate_dst (N := 5) rfl ?_); refine box_event ?hg (N := 5) ?hd (cs := #[.int .i64 3, .int .i64 (k : Int), .int .i64 j, .int .i64 m.f0, .int .i64 m.f1, .string m.f2, .bool all]) (t := 41) ?hr ?_; (case hd => rfl); (case hg => rfl); (case hr => first | (go_simp; done) | (go_simp; rfl)); intro gA hgA w1 hbox hb1; have HB := Aside0.mk (DuoB.mk (H0.out.quiet (Chg.of_below hb1 _)) hbox (H0.out.away (Nat.le_of_eq hgA.symm)) (Chg.of_below hb1 _)); obtain ⟨d0, d1, d2, d3, d4, d5, d6, f0, f1, f2, f3, f4, f5, f6⟩ := box7 hbox; have lgA := blk_lt hbox; clear hb1 hbox hgA) | (go_at_call 14; (with_reducible refine (HB.out.call (HD.out _ HB.out.duo)).mono ?_); rintro e w2 ⟨rfl, hB⟩; clear lgA d0 d1 d2 d3 d4 d5 d6 f0 f1 f2 f3 f4 f5 f6; have n0 := Aside0.mk hB; clear HB hB; have HB := n0; clear n0; obtain ⟨d0, d1, d2, d3, d4, d5, d6, f0, f1, f2, f3, f4, f5, f6⟩ := box7 HB.out.box; have lgA := blk_lt HB.out.box; have BM := Aside0.mk (blk_new w2 (.cells #[.int .i64 zM.f0, .int .i64 zM.f1, .string zM.f2] 30 (0, 0))); have AW := Aside0.mk (HB.out.duo.away (Nat.le_refl _)); obtain ⟨z0, z1, z2, -⟩ := box3 BM.out; clear HD) | (go_at_call 30; (with_reducible refine ((HB.out.quiet ((Chg.refl (fun _ => False) _).alloc (.cells #[.int .i64 zM.f0, .int .i64 zM.f1, .string zM.f2] 30 (0, 0)))).duo.ris_yes (is_nat HK.out)).mono ?_); rintro e w2 ⟨rfl, rfl⟩) | (go_at_call 31; (with_reducible refine ((HB.out.quiet ((Chg.refl (fun _ => False) _).alloc (.cells #[.int .i64 zM.f0, .int .i64 zM.f1, .string zM.f2] 30 (0, 0)))).duo.rtake k HK.out HF.out.len).mono ?_); rintro e w3 ⟨rfl, hd, hc⟩; clear lgA d0 d1 d2 d3 d4 d5 d6 f0 f1 f2 f3 f4 f5 f6 z0 z1 z2; have HB3 := Aside0.mk ((HB.out.quiet ((Chg.refl (fun _ => False) _).alloc (.cells #[.int .i64 zM.f0, .int .i64 zM.f1, .string zM.f2] 30 (0, 0)))).of ⟨hd, hc⟩); obtain ⟨z0, z1, z2, -⟩ := box3 (chg_blk hc AW.out BM.out); have lz := blk_lt (chg_blk hc AW.out BM.out); clear hd hc HB BM; have lgA := blk_lt HB3.out.box; rw [HMM.out]; have t3 : w3.cell? ⟨x, 3, none⟩ = some (.int .i64 X.lost) := HB3.out.duo.ref.open.2.2.2.1; have tf := HB3.out.duo.ref.open.2.2.2.2 3; have lx := HB3.out.duo.lt.2.2.1; obtain ⟨y0, y1, y2, -, -, -⟩ := box3 (blk_new w3 (.cells #[.int .i64 mm.f0, .int .i64 mm.f1, .string mm.f2] 30 (0, 0)))) | (go_at_call 20; (with_reducible refine ((HB3.out.quiet ((Chg.refl (fun _ => False) _).alloc (.cells #[.int .i64 mm.f0, .int .i64 mm.f1, .string mm.f2] 30 (0, 0)))).duo.rcut HND.out.1 HND.out.2).mono ?_); rintro e w4 ⟨rfl, rfl⟩; simp only [show isCut { X with l := takeL X.l k } mm.f0 mm.f1 = isCut X mm.f0 mm.f1 from rfl, HCC.out]))
  go_ret
  have HE := HB3.out.of (HB3.out.duo.rlost (X.lost + 1))
  exact ⟨rfl, (HE.duo.quiet ((Chg.refl _ _).alloc _)).more (Nat.le_succ _), HE.chg.alloc _⟩
set_option maxHeartbeats 4000000 in
set_option maxRecDepth 100000 in
theorem do_del_ok (w0 w : World) (b c x o n : Nat) (X : Nt) (j : Int) (m : Msg) (all : Bool) (h0 : Duo w0 w b c x o n X X) (hF : Fine X) (k : Nat) (hk : k < X.l.length) (h2 : Two X (X.l[k]'hk).f0 (X.l[k]'hk).f1) (hc : isCut X (X.l[k]'hk).f0 (X.l[k]'hk).f1 = false) :
    Calls Try.prog 16 #[.pointer (some ⟨b, 0, none⟩), .pointer (some ⟨x, 0, none⟩), .agg #[.int .i64 3, .int .i64 (k : Int), .int .i64 j, .int .i64 m.f0, .int .i64 m.f1, .string m.f2, .bool all]] w fun e w' => e = .returned (.bool true) ∧ Duo w0 w' b c x o (n + 1) ({ X with l := takeL X.l k }) ({ X with l := takeL X.l k }) ∧ Chg (SD b c x o) w w' := by
  have H0 := Aside0.mk h0
  have HF := Aside0.mk hF
  clear h0 hF
  have q1 : (zM.f2.toList == []) = true := by kernel_rfl
  have q2 : (([] : List UInt8) == zM.f2.toList) = true := by kernel_rfl
  have hu30 := Try.underlying30
  have HK := Aside0.mk hk
  have HND : Aside0 (Nd (X.l[k]'hk).f0 ∧ Nd (X.l[k]'hk).f1) := ⟨by have := HF.out.few; unfold Two at h2; unfold Few at this; unfold Nd; omega⟩
  have l0 := HF.out.l0
  have l1 := HF.out.l1
  have HD := Aside0.mk (fun w1 (h : Duo w0 w1 b c x o n X X) => h.deliver HF.out (k : Int))
  rw [nDeliver_ok hk h2 hc] at HD
  obtain ⟨mm, hmm⟩ : ∃ mm, X.l[k]'hk = mm := ⟨_, rfl⟩
  simp only [hmm] at HD HND hc h2
  have HMM := Aside0.mk (show X.l[k]'HK.out = mm from hmm)
  have HCC := Aside0.mk hc
  clear hmm hk h2 hc
  go_enter Try.func16, Try.ntmps16
  go_wp2_with (first | ((with_reducible refine gate_dst (N := 5) rfl ?_); refine box_event ?hg (N := 5) ?hd (cs := #[.int .i64 3, .int .i64 (k : Int), .int .i64 j, .int .i64 m.f0, .int .i64 m.f1, .string m.f2, .bool all]) (t := 41) ?hr ?_; (case hd => rfl); (case hg => rfl); (case hr => first | (go_simp; done) | (go_simp; rfl)); intro gA hgA w1 hbox hb1; have HB := Aside0.mk (DuoB.mk (H0.out.quiet (Chg.of_below hb1 _)) hbox (H0.out.away (Nat.le_of_eq hgA.symm)) (Chg.of_below hb1 _)); obtain ⟨d0, d1, d2, d3, d4, d5, d6, f0, f1, f2, f3, f4, f5, f6⟩ := box7 hbox; have lgA := blk_lt hbox; clear hb1 hbox hgA) | (go_at_call 14; (with_reducible refine (HB.out.call (HD.out _ HB.out.duo)).mono ?_); rintro e w2 ⟨rfl, hB⟩; clear lgA d0 d1 d2 d3 d4 d5 d6 f0 f1 f2 f3 f4 f5 f6; have n0 := Aside0.mk hB; clear HB hB; have HB := n0; clear n0; obtain ⟨d0, d1, d2, d3, d4, d5, d6, f0, f1, f2, f3, f4, f5, f6⟩ := box7 HB.out.box; have lgA := blk_lt HB.out.box; have BM := Aside0.mk (blk_new w2 (.cells #[.int .i64 mm.f0, .int .i64 mm.f1, .string mm.f2] 30 (0, 0))); have AW := Aside0.mk (HB.out.duo.away (Nat.le_refl _)); obtain ⟨z0, z1, z2, -⟩ := box3 BM.out; clear HD) | (go_at_call 30; (with_reducible refine ((HB.out.quiet ((Chg.refl (fun _ => False) _).alloc (.cells #[.int .i64 mm.f0, .int .i64 mm.f1, .string mm.f2] 30 (0, 0)))).duo.ris_yes (is_nat HK.out)).mono ?_); rintro e w2 ⟨rfl, rfl⟩) | (go_at_call 31; (with_reducible refine ((HB.out.quiet ((Chg.refl (fun _ => False) _).alloc (.cells #[.int .i64 mm.f0, .int .i64 mm.f1, .string mm.f2] 30 (0, 0)))).duo.rtake k HK.out HF.out.len).mono ?_); rintro e w3 ⟨rfl, hd, hc⟩; clear lgA d0 d1 d2 d3 d4 d5 d6 f0 f1 f2 f3 f4 f5 f6 z0 z1 z2; have HB3 := Aside0.mk ((HB.out.quiet ((Chg.refl (fun _ => False) _).alloc (.cells #[.int .i64 mm.f0, .int .i64 mm.f1, .string mm.f2] 30 (0, 0)))).of ⟨hd, hc⟩); obtain ⟨z0, z1, z2, -⟩ := box3 (chg_blk hc AW.out BM.out); have lz := blk_lt (chg_blk hc AW.out BM.out); clear hd hc HB BM; have lgA := blk_lt HB3.out.box; rw [HMM.out]; have t3 : w3.cell? ⟨x, 3, none⟩ = some (.int .i64 X.lost) := HB3.out.duo.ref.open.2.2.2.1; have tf := HB3.out.duo.ref.open.2.2.2.2 3; have lx := HB3.out.duo.lt.2.2.1; obtain ⟨y0, y1, y2, -, -, -⟩ := box3 (blk_new w3 (.cells #[.int .i64 mm.f0, .int .i64 mm.f1, .string mm.f2] 30 (0, 0)))) | (go_at_call 20; (with_reducible refine ((HB3.out.quiet ((Chg.refl (fun _ => False) _).alloc (.cells #[.int .i64 mm.f0, .int .i64 mm.f1, .string mm.f2] 30 (0, 0)))).duo.rcut HND.out.1 HND.out.2).mono ?_); rintro e w4 ⟨rfl, rfl⟩; simp only [show isCut { X with l := takeL X.l k } mm.f0 mm.f1 = isCut X mm.f0 mm.f1 from rfl, HCC.out]))
  go_ret
  exact ⟨rfl, (HB3.out.duo.quiet ((Chg.refl _ _).alloc _)).more (Nat.le_succ _), HB3.out.chg.alloc _⟩
set_option maxHeartbeats 4000000 in
set_option maxRecDepth 100000 in
theorem do_del_no0 (w0 w : World) (b c x o n : Nat) (X : Nt) (kd i j : Int) (m : Msg) (all : Bool) (h0 : Duo w0 w b c x o n X X) (hF : Fine X) (ho : Other kd) (hi : ¬ Is X 0) :
    Calls Try.prog 16 #[.pointer (some ⟨b, 0, none⟩), .pointer (some ⟨x, 0, none⟩), .agg #[.int .i64 kd, .int .i64 i, .int .i64 j, .int .i64 m.f0, .int .i64 m.f1, .string m.f2, .bool all]] w fun e w' => e = .returned (.bool true) ∧ Duo w0 w' b c x o (n + 1) (X) (X) ∧ Chg (SD b c x o) w w' := by
  have H0 := Aside0.mk h0
  have HF := Aside0.mk hF
  clear h0 hF
  obtain ⟨k0, k1, k2, k3, k4, k5, k6, k7, k8⟩ := ho
  have k0 : (kd == 0) = false := by simpa using k0
  have k1 : (kd == 1) = false := by simpa using k1
  have k2 : (kd == 2) = false := by simpa using k2
  have k3 : (kd == 3) = false := by simpa using k3
  have k4 : (kd == 4) = false := by simpa using k4
  have k5 : (kd == 5) = false := by simpa using k5
  have k6 : (kd == 6) = false := by simpa using k6
  have k7 : (kd == 7) = false := by simpa using k7
  have k8 : (kd == 8) = false := by simpa using k8
  have k9 : (kd != 3) = true := by rw [bne, k3]; rfl
  have kx := True.intro
  have q1 : (zM.f2.toList == []) = true := by kernel_rfl
  have q2 : (([] : List UInt8) == zM.f2.toList) = true := by kernel_rfl
  have hu30 := Try.underlying30
  have HI := Aside0.mk hi
  have HD := Aside0.mk (fun w1 (h : Duo w0 w1 b c x o n X X) => h.deliver HF.out 0)
  rw [nDeliver_no hi] at HD
  clear hi
  go_enter Try.func16, Try.ntmps16
  go_wp2_with (first | ((with_reducible refine gate_dst (N := 5) rfl ?_); refine box_event ?hg (N := 5) ?hd (cs := #[.int .i64 kd, .int .i64 i, .int .i64 j, .int .i64 m.f0, .int .i64 m.f1, .string m.f2, .bool all]) (t := 41) ?hr ?_; (case hd => rfl); (case hg => rfl); (case hr => first | (go_simp; done) | (go_simp; rfl)); intro gA hgA w1 hbox hb1; have HB := Aside0.mk (DuoB.mk (H0.out.quiet (Chg.of_below hb1 _)) hbox (H0.out.away (Nat.le_of_eq hgA.symm)) (Chg.of_below hb1 _)); obtain ⟨d0, d1, d2, d3, d4, d5, d6, f0, f1, f2, f3, f4, f5, f6⟩ := box7 hbox; have lgA := blk_lt hbox; have HP := Aside0.mk (DuoB.mk (H0.out.quiet (Chg.set (S := fun _ => False) (p := ⟨gA, 1, none⟩) (Chg.of_below hb1 _) (.inr (Nat.le_of_eq hgA.symm)) (.int .i64 0))) (blk_put hbox 1 (.int .i64 0) (cs' := #[.int .i64 kd, .int .i64 0, .int .i64 j, .int .i64 m.f0, .int .i64 m.f1, .string m.f2, .bool all]) rfl) (H0.out.away (Nat.le_of_eq hgA.symm)) (Chg.set (S := SD b c x o) (p := ⟨gA, 1, none⟩) (Chg.of_below hb1 _) (.inr (Nat.le_of_eq hgA.symm)) (.int .i64 0)) : DuoB w0 w _ b c x o n X X gA #[.int .i64 kd, .int .i64 0, .int .i64 j, .int .i64 m.f0, .int .i64 m.f1, .string m.f2, .bool all] 41); clear hb1 hbox hgA) | (go_at_call 14; (with_reducible refine (HP.out.call (HD.out _ HP.out.duo)).mono ?_); rintro e w2 ⟨rfl, hB⟩; clear lgA d0 d1 d2 d3 d4 d5 d6 f0 f1 f2 f3 f4 f5 f6; have n0 := Aside0.mk hB; clear HB hB; have HB := n0; clear n0; obtain ⟨d0, d1, d2, d3, d4, d5, d6, f0, f1, f2, f3, f4, f5, f6⟩ := box7 HB.out.box; have lgA := blk_lt HB.out.box; have BM := Aside0.mk (blk_new w2 (.cells #[.int .i64 zM.f0, .int .i64 zM.f1, .string zM.f2] 30 (0, 0))); have AW := Aside0.mk (HB.out.duo.away (Nat.le_refl _)); obtain ⟨z0, z1, z2, -⟩ := box3 BM.out; clear HD) | (go_at_call 30; (with_reducible refine ((HB.out.quiet ((Chg.refl (fun _ => False) _).alloc (.cells #[.int .i64 zM.f0, .int .i64 zM.f1, .string zM.f2] 30 (0, 0)))).duo.ris_no HI.out).mono ?_); rintro e w2 ⟨rfl, rfl⟩))
  go_ret
  exact ⟨rfl, (HB.out.duo.quiet ((Chg.refl _ _).alloc _)).more (Nat.le_succ _), HB.out.chg.alloc _⟩
set_option maxHeartbeats 4000000 in
set_option maxRecDepth 100000 in
theorem do_del_cut0 (w0 w : World) (b c x o n : Nat) (X : Nt) (kd i j : Int) (m : Msg) (all : Bool) (h0 : Duo w0 w b c x o n X X) (hF : Fine X) (ho : Other kd) (hk : 0 < X.l.length) (h2 : Two X (X.l[0]'hk).f0 (X.l[0]'hk).f1) (hc : isCut X (X.l[0]'hk).f0 (X.l[0]'hk).f1 = true) :
    Calls Try.prog 16 #[.pointer (some ⟨b, 0, none⟩), .pointer (some ⟨x, 0, none⟩), .agg #[.int .i64 kd, .int .i64 i, .int .i64 j, .int .i64 m.f0, .int .i64 m.f1, .string m.f2, .bool all]] w fun e w' => e = .returned (.bool true) ∧ Duo w0 w' b c x o (n + 1) ({ X with l := takeL X.l 0, lost := X.lost + 1 }) ({ X with l := takeL X.l 0, lost := X.lost + 1 }) ∧ Chg (SD b c x o) w w' := by
  have H0 := Aside0.mk h0
  have HF := Aside0.mk hF
  clear h0 hF
  obtain ⟨k0, k1, k2, k3, k4, k5, k6, k7, k8⟩ := ho
  have k0 : (kd == 0) = false := by simpa using k0
  have k1 : (kd == 1) = false := by simpa using k1
  have k2 : (kd == 2) = false := by simpa using k2
  have k3 : (kd == 3) = false := by simpa using k3
  have k4 : (kd == 4) = false := by simpa using k4
  have k5 : (kd == 5) = false := by simpa using k5
  have k6 : (kd == 6) = false := by simpa using k6
  have k7 : (kd == 7) = false := by simpa using k7
  have k8 : (kd == 8) = false := by simpa using k8
  have k9 : (kd != 3) = true := by rw [bne, k3]; rfl
  have kx := True.intro
  have q1 : (zM.f2.toList == []) = true := by kernel_rfl
  have q2 : (([] : List UInt8) == zM.f2.toList) = true := by kernel_rfl
  have hu30 := Try.underlying30
  have HK := Aside0.mk hk
  have HND : Aside0 (Nd (X.l[0]'hk).f0 ∧ Nd (X.l[0]'hk).f1) := ⟨by have := HF.out.few; unfold Two at h2; unfold Few at this; unfold Nd; omega⟩
  have l0 := HF.out.l0
  have l1 := HF.out.l1
  have HD := Aside0.mk (fun w1 (h : Duo w0 w1 b c x o n X X) => h.deliver HF.out 0)
  rw [show (0 : Int) = ((0 : Nat) : Int) from rfl, nDeliver_cut hk hc, show ((0 : Nat) : Int) = 0 from rfl] at HD
  obtain ⟨mm, hmm⟩ : ∃ mm, X.l[0]'hk = mm := ⟨_, rfl⟩
  simp only [hmm] at HD HND hc h2
  have HMM := Aside0.mk (show X.l[0]'HK.out = mm from hmm)
  have HCC := Aside0.mk hc
  clear hmm hk h2 hc
  go_enter Try.func16, Try.ntmps16
  go_wp2_with (first | ((with_reducible refine gate_dst (N := 5) rfl ?_); refine box_event ?hg (N := 5) ?hd (cs := #[.int .i64 kd, .int .i64 i, .int .i64 j, .int .i64 m.f0, .int .i64 m.f1, .string m.f2, .bool all]) (t := 41) ?hr ?_; (case hd => rfl); (case hg => rfl); (case hr => first | (go_simp; done) | (go_simp; rfl)); intro gA hgA w1 hbox hb1; have HB := Aside0.mk (DuoB.mk (H0.out.quiet (Chg.of_below hb1 _)) hbox (H0.out.away (Nat.le_of_eq hgA.symm)) (Chg.of_below hb1 _)); obtain ⟨d0, d1, d2, d3, d4, d5, d6, f0, f1, f2, f3, f4, f5, f6⟩ := box7 hbox; have lgA := blk_lt hbox; have HP := Aside0.mk (DuoB.mk (H0.out.quiet (Chg.set (S := fun _ => False) (p := ⟨gA, 1, none⟩) (Chg.of_below hb1 _) (.inr (Nat.le_of_eq hgA.symm)) (.int .i64 0))) (blk_put hbox 1 (.int .i64 0) (cs' := #[.int .i64 kd, .int .i64 0, .int .i64 j, .int .i64 m.f0, .int .i64 m.f1, .string m.f2, .bool all]) rfl) (H0.out.away (Nat.le_of_eq hgA.symm)) (Chg.set (S := SD b c x o) (p := ⟨gA, 1, none⟩) (Chg.of_below hb1 _) (.inr (Nat.le_of_eq hgA.symm)) (.int .i64 0)) : DuoB w0 w _ b c x o n X X gA #[.int .i64 kd, .int .i64 0, .int .i64 j, .int .i64 m.f0, .int .i64 m.f1, .string m.f2, .bool all] 41); clear hb1 hbox hgA) | (go_at_call 14; (with_reducible refine (HP.out.call (HD.out _ HP.out.duo)).mono ?_); rintro e w2 ⟨rfl, hB⟩; clear lgA d0 d1 d2 d3 d4 d5 d6 f0 f1 f2 f3 f4 f5 f6; have n0 := Aside0.mk hB; clear HB hB; have HB := n0; clear n0; obtain ⟨d0, d1, d2, d3, d4, d5, d6, f0, f1, f2, f3, f4, f5, f6⟩ := box7 HB.out.box; have lgA := blk_lt HB.out.box; have BM := Aside0.mk (blk_new w2 (.cells #[.int .i64 zM.f0, .int .i64 zM.f1, .string zM.f2] 30 (0, 0))); have AW := Aside0.mk (HB.out.duo.away (Nat.le_refl _)); obtain ⟨z0, z1, z2, -⟩ := box3 BM.out; clear HD) | (go_at_call 30; (with_reducible refine ((HB.out.quiet ((Chg.refl (fun _ => False) _).alloc (.cells #[.int .i64 zM.f0, .int .i64 zM.f1, .string zM.f2] 30 (0, 0)))).duo.ris_yes (is_zero HK.out)).mono ?_); rintro e w2 ⟨rfl, rfl⟩) | (go_at_call 31; (with_reducible refine ((HB.out.quiet ((Chg.refl (fun _ => False) _).alloc (.cells #[.int .i64 zM.f0, .int .i64 zM.f1, .string zM.f2] 30 (0, 0)))).duo.rtake0 HK.out HF.out.len).mono ?_); rintro e w3 ⟨rfl, hd, hc⟩; clear lgA d0 d1 d2 d3 d4 d5 d6 f0 f1 f2 f3 f4 f5 f6 z0 z1 z2; have HB3 := Aside0.mk ((HB.out.quiet ((Chg.refl (fun _ => False) _).alloc (.cells #[.int .i64 zM.f0, .int .i64 zM.f1, .string zM.f2] 30 (0, 0)))).of ⟨hd, hc⟩); obtain ⟨z0, z1, z2, -⟩ := box3 (chg_blk hc AW.out BM.out); have lz := blk_lt (chg_blk hc AW.out BM.out); clear hd hc HB BM; have lgA := blk_lt HB3.out.box; rw [HMM.out]; have t3 : w3.cell? ⟨x, 3, none⟩ = some (.int .i64 X.lost) := HB3.out.duo.ref.open.2.2.2.1; have tf := HB3.out.duo.ref.open.2.2.2.2 3; have lx := HB3.out.duo.lt.2.2.1; obtain ⟨y0, y1, y2, -, -, -⟩ := box3 (blk_new w3 (.cells #[.int .i64 mm.f0, .int .i64 mm.f1, .string mm.f2] 30 (0, 0)))) | (go_at_call 20; (with_reducible refine ((HB3.out.quiet ((Chg.refl (fun _ => False) _).alloc (.cells #[.int .i64 mm.f0, .int .i64 mm.f1, .string mm.f2] 30 (0, 0)))).duo.rcut HND.out.1 HND.out.2).mono ?_); rintro e w4 ⟨rfl, rfl⟩; simp only [show isCut { X with l := takeL X.l 0 } mm.f0 mm.f1 = isCut X mm.f0 mm.f1 from rfl, HCC.out]))
  go_ret
  have HE := HB3.out.of (HB3.out.duo.rlost (X.lost + 1))
  exact ⟨rfl, (HE.duo.quiet ((Chg.refl _ _).alloc _)).more (Nat.le_succ _), HE.chg.alloc _⟩
set_option maxHeartbeats 4000000 in
set_option maxRecDepth 100000 in
theorem do_del_ok0 (w0 w : World) (b c x o n : Nat) (X : Nt) (kd i j : Int) (m : Msg) (all : Bool) (h0 : Duo w0 w b c x o n X X) (hF : Fine X) (ho : Other kd) (hk : 0 < X.l.length) (h2 : Two X (X.l[0]'hk).f0 (X.l[0]'hk).f1) (hc : isCut X (X.l[0]'hk).f0 (X.l[0]'hk).f1 = false) :
    Calls Try.prog 16 #[.pointer (some ⟨b, 0, none⟩), .pointer (some ⟨x, 0, none⟩), .agg #[.int .i64 kd, .int .i64 i, .int .i64 j, .int .i64 m.f0, .int .i64 m.f1, .string m.f2, .bool all]] w fun e w' => e = .returned (.bool true) ∧ Duo w0 w' b c x o (n + 1) ({ X with l := takeL X.l 0 }) ({ X with l := takeL X.l 0 }) ∧ Chg (SD b c x o) w w' := by
  have H0 := Aside0.mk h0
  have HF := Aside0.mk hF
  clear h0 hF
  obtain ⟨k0, k1, k2, k3, k4, k5, k6, k7, k8⟩ := ho
  have k0 : (kd == 0) = false := by simpa using k0
  have k1 : (kd == 1) = false := by simpa using k1
  have k2 : (kd == 2) = false := by simpa using k2
  have k3 : (kd == 3) = false := by simpa using k3
  have k4 : (kd == 4) = false := by simpa using k4
  have k5 : (kd == 5) = false := by simpa using k5
  have k6 : (kd == 6) = false := by simpa using k6
  have k7 : (kd == 7) = false := by simpa using k7
  have k8 : (kd == 8) = false := by simpa using k8
  have k9 : (kd != 3) = true := by rw [bne, k3]; rfl
  have kx := True.intro
  have q1 : (zM.f2.toList == []) = true := by kernel_rfl
  have q2 : (([] : List UInt8) == zM.f2.toList) = true := by kernel_rfl
  have hu30 := Try.underlying30
  have HK := Aside0.mk hk
  have HND : Aside0 (Nd (X.l[0]'hk).f0 ∧ Nd (X.l[0]'hk).f1) := ⟨by have := HF.out.few; unfold Two at h2; unfold Few at this; unfold Nd; omega⟩
  have l0 := HF.out.l0
  have l1 := HF.out.l1
  have HD := Aside0.mk (fun w1 (h : Duo w0 w1 b c x o n X X) => h.deliver HF.out 0)
  rw [show (0 : Int) = ((0 : Nat) : Int) from rfl, nDeliver_ok hk h2 hc, show ((0 : Nat) : Int) = 0 from rfl] at HD
  obtain ⟨mm, hmm⟩ : ∃ mm, X.l[0]'hk = mm := ⟨_, rfl⟩
  simp only [hmm] at HD HND hc h2
  have HMM := Aside0.mk (show X.l[0]'HK.out = mm from hmm)
  have HCC := Aside0.mk hc
  clear hmm hk h2 hc
  go_enter Try.func16, Try.ntmps16
  go_wp2_with (first | ((with_reducible refine gate_dst (N := 5) rfl ?_); refine box_event ?hg (N := 5) ?hd (cs := #[.int .i64 kd, .int .i64 i, .int .i64 j, .int .i64 m.f0, .int .i64 m.f1, .string m.f2, .bool all]) (t := 41) ?hr ?_; (case hd => rfl); (case hg => rfl); (case hr => first | (go_simp; done) | (go_simp; rfl)); intro gA hgA w1 hbox hb1; have HB := Aside0.mk (DuoB.mk (H0.out.quiet (Chg.of_below hb1 _)) hbox (H0.out.away (Nat.le_of_eq hgA.symm)) (Chg.of_below hb1 _)); obtain ⟨d0, d1, d2, d3, d4, d5, d6, f0, f1, f2, f3, f4, f5, f6⟩ := box7 hbox; have lgA := blk_lt hbox; have HP := Aside0.mk (DuoB.mk (H0.out.quiet (Chg.set (S := fun _ => False) (p := ⟨gA, 1, none⟩) (Chg.of_below hb1 _) (.inr (Nat.le_of_eq hgA.symm)) (.int .i64 0))) (blk_put hbox 1 (.int .i64 0) (cs' := #[.int .i64 kd, .int .i64 0, .int .i64 j, .int .i64 m.f0, .int .i64 m.f1, .string m.f2, .bool all]) rfl) (H0.out.away (Nat.le_of_eq hgA.symm)) (Chg.set (S := SD b c x o) (p := ⟨gA, 1, none⟩) (Chg.of_below hb1 _) (.inr (Nat.le_of_eq hgA.symm)) (.int .i64 0)) : DuoB w0 w _ b c x o n X X gA #[.int .i64 kd, .int .i64 0, .int .i64 j, .int .i64 m.f0, .int .i64 m.f1, .string m.f2, .bool all] 41); clear hb1 hbox hgA) | (go_at_call 14; (with_reducible refine (HP.out.call (HD.out _ HP.out.duo)).mono ?_); rintro e w2 ⟨rfl, hB⟩; clear lgA d0 d1 d2 d3 d4 d5 d6 f0 f1 f2 f3 f4 f5 f6; have n0 := Aside0.mk hB; clear HB hB; have HB := n0; clear n0; obtain ⟨d0, d1, d2, d3, d4, d5, d6, f0, f1, f2, f3, f4, f5, f6⟩ := box7 HB.out.box; have lgA := blk_lt HB.out.box; have BM := Aside0.mk (blk_new w2 (.cells #[.int .i64 mm.f0, .int .i64 mm.f1, .string mm.f2] 30 (0, 0))); have AW := Aside0.mk (HB.out.duo.away (Nat.le_refl _)); obtain ⟨z0, z1, z2, -⟩ := box3 BM.out; clear HD) | (go_at_call 30; (with_reducible refine ((HB.out.quiet ((Chg.refl (fun _ => False) _).alloc (.cells #[.int .i64 mm.f0, .int .i64 mm.f1, .string mm.f2] 30 (0, 0)))).duo.ris_yes (is_zero HK.out)).mono ?_); rintro e w2 ⟨rfl, rfl⟩) | (go_at_call 31; (with_reducible refine ((HB.out.quiet ((Chg.refl (fun _ => False) _).alloc (.cells #[.int .i64 mm.f0, .int .i64 mm.f1, .string mm.f2] 30 (0, 0)))).duo.rtake0 HK.out HF.out.len).mono ?_); rintro e w3 ⟨rfl, hd, hc⟩; clear lgA d0 d1 d2 d3 d4 d5 d6 f0 f1 f2 f3 f4 f5 f6 z0 z1 z2; have HB3 := Aside0.mk ((HB.out.quiet ((Chg.refl (fun _ => False) _).alloc (.cells #[.int .i64 mm.f0, .int .i64 mm.f1, .string mm.f2] 30 (0, 0)))).of ⟨hd, hc⟩); obtain ⟨z0, z1, z2, -⟩ := box3 (chg_blk hc AW.out BM.out); have lz := blk_lt (chg_blk hc AW.out BM.out); clear hd hc HB BM; have lgA := blk_lt HB3.out.box; rw [HMM.out]; have t3 : w3.cell? ⟨x, 3, none⟩ = some (.int .i64 X.lost) := HB3.out.duo.ref.open.2.2.2.1; have tf := HB3.out.duo.ref.open.2.2.2.2 3; have lx := HB3.out.duo.lt.2.2.1; obtain ⟨y0, y1, y2, -, -, -⟩ := box3 (blk_new w3 (.cells #[.int .i64 mm.f0, .int .i64 mm.f1, .string mm.f2] 30 (0, 0)))) | (go_at_call 20; (with_reducible refine ((HB3.out.quiet ((Chg.refl (fun _ => False) _).alloc (.cells #[.int .i64 mm.f0, .int .i64 mm.f1, .string mm.f2] 30 (0, 0)))).duo.rcut HND.out.1 HND.out.2).mono ?_); rintro e w4 ⟨rfl, rfl⟩; simp only [show isCut { X with l := takeL X.l 0 } mm.f0 mm.f1 = isCut X mm.f0 mm.f1 from rfl, HCC.out]))
  go_ret
  exact ⟨rfl, (HB3.out.duo.quiet ((Chg.refl _ _).alloc _)).more (Nat.le_succ _), HB3.out.chg.alloc _⟩

end Go.Proofs.Ytclmhodgfhkgcaa.Q

/- The contracts of mark, and of do's kinds 7 and 8. (Printed by gen_mark.py.) -/
namespace Go.Proofs.Ytclmhodgfhkgcaa.Q
open Go.RowKit Go.Proofs.YtclmhodgfhkgcaaW.PrintWords Go.Proofs.YtclmhodgfhkgcaaW.PrintLast Go.Proofs.YtclmhodgfhkgcaaW.PrintMore
set_option linter.unusedVariables false
set_option linter.unusedSimpArgs false

theorem nJoin_no {X : Nt} {i j : Int} (h : ¬ Two X i j) : nJoin X i j = (2, X) := if_neg h
theorem nJoin_yes {X : Nt} {i j : Int} (h : Two X i j) : nJoin X i j = (0, cutX X i j false) := if_pos h
theorem nCut_no {X : Nt} {i j : Int} {all : Bool} (h : ¬ Two X i j) : nCut X i j all = (2, X) := if_neg h
theorem nCut_yes {X : Nt} {i j : Int} (h : Two X i j) : nCut X i j false = (0, cutX X i j true) := if_pos h
theorem nCut_all {X : Nt} {i j : Int} (h : Two X i j) : nCut X i j true = (0, keepX (cutX X i j true) (min i j) (max i j)) := if_pos h
theorem Duo.rtwo_no {w0 w : World} {b c x o n : Nat} {X Y : Nt} (h : Duo w0 w b c x o n X Y) {p q : Int} (h2 : ¬ Two Y p q) : Calls Try.prog 19 #[.pointer (some ⟨x, 0, none⟩), .int .i64 p, .int .i64 q] w fun e w' => e = .returned (.bool false) ∧ w = w' := by
  have h1 := rTwo_calls _ x o Y p q w h.ref
  rwa [decide_eq_false h2] at h1
theorem Duo.rtwo_yes {w0 w : World} {b c x o n : Nat} {X Y : Nt} (h : Duo w0 w b c x o n X Y) {p q : Int} (h2 : Two Y p q) : Calls Try.prog 19 #[.pointer (some ⟨x, 0, none⟩), .int .i64 p, .int .i64 q] w fun e w' => e = .returned (.bool true) ∧ w = w' := by
  have h1 := rTwo_calls _ x o Y p q w h.ref
  rwa [decide_eq_true h2] at h1
/-- What is left behind place k, and what was lost there. -/
def leftL (mn mx : Int) (l : List Msg) (k : Nat) : List Msg := l.take k ++ (l.drop k).filter (fun m => !meantB mn mx m)
def leftN (mn mx : Int) (l : List Msg) (k : Nat) : Int := ((l.drop k).filter (meantB mn mx)).length
def leftX (mn mx : Int) (X : Nt) (k : Nat) : Nt := { X with l := leftL mn mx X.l k, lost := X.lost + leftN mn mx X.l k }
section
variable {mn mx : Int} {l : List Msg} {k : Nat}
theorem left_len (h : k < l.length) : k < (leftL mn mx l (k + 1)).length := by
  unfold leftL
  simp only [List.length_append, List.length_take]
  omega
theorem left_le (hk : k ≤ l.length) : (leftL mn mx l k).length ≤ l.length := by
  unfold leftL
  have h := List.length_filter_le (fun m => !meantB mn mx m) (l.drop k)
  simp only [List.length_append, List.length_take, List.length_drop] at h ⊢
  omega
theorem left_get (h : k < l.length) : (leftL mn mx l (k + 1))[k]'(left_len h) = l[k] := by
  have h3 : (leftL mn mx l (k + 1))[k]? = some l[k] := by
    unfold leftL
    rw [List.getElem?_append_left (by simp; omega), List.getElem?_take_of_lt (by omega)]
    simp [h]
  exact (List.getElem?_eq_some_iff.1 h3).2
theorem left_keep (h : k < l.length) (hm : meantB mn mx l[k] = false) : leftL mn mx l (k + 1) = leftL mn mx l k := by
  unfold leftL
  rw [List.drop_eq_getElem_cons h, List.filter_cons, if_pos (by rw [hm]; rfl), List.take_succ_eq_append_getElem h, List.append_assoc]
  rfl
theorem left_take (h : k < l.length) (hm : meantB mn mx l[k] = true) : takeL (leftL mn mx l (k + 1)) k = leftL mn mx l k := by
  unfold leftL
  have e : (l.take k).length = k := by simp; omega
  rw [show (l.drop k).filter (fun m => !meantB mn mx m) = (l.drop (k + 1)).filter (fun m => !meantB mn mx m) by rw [List.drop_eq_getElem_cons h, List.filter_cons, if_neg (by rw [hm]; decide)], List.take_succ_eq_append_getElem h, List.append_assoc]
  have := takeL_insL (l := l.take k ++ (l.drop (k + 1)).filter (fun m => !meantB mn mx m)) (j := k) (m := l[k]) (by rw [List.length_append]; omega)
  unfold insL at this
  rw [List.take_append_of_le_length (by omega), List.take_of_length_le (by omega), List.drop_append, List.drop_of_length_le (by omega), e, Nat.sub_self, List.nil_append, List.drop_zero] at this
  exact this
theorem leftN_succ (h : k < l.length) : leftN mn mx l k = leftN mn mx l (k + 1) + if meantB mn mx l[k] then 1 else 0 := by
  unfold leftN
  rw [List.drop_eq_getElem_cons h, List.filter_cons]
  split
  · simp
  · simp
theorem leftN_bd (hk : k ≤ l.length) : 0 ≤ leftN mn mx l k ∧ leftN mn mx l k ≤ l.length := by
  unfold leftN
  have h := List.length_filter_le (meantB mn mx) (l.drop k)
  simp only [List.length_drop] at h
  omega
theorem leftX_all (X : Nt) : leftX mn mx X X.l.length = X := by
  unfold leftX leftL leftN
  rw [List.take_length, List.drop_length]
  simp
theorem leftX_none (X : Nt) : leftX mn mx X 0 = keepX X mn mx := by
  unfold leftX leftL leftN keepX
  simp
end
theorem meant_is {p q : Int} {m : Msg} : meantB (min p q) (max p q) m = true ↔ (m.f0 = p ∧ m.f1 = q) ∨ (m.f0 = q ∧ m.f1 = p) := by
  unfold meantB
  rw [Bool.and_eq_true, beq_iff_eq, beq_iff_eq]
  omega
set_option maxHeartbeats 4000000 in
set_option maxRecDepth 100000 in
theorem mark_join_no (w0 w : World) (b c x o n : Nat) (X : Nt) (i j : Int) (m : Msg) (all : Bool) (h0 : Duo w0 w b c x o n X X) (hF : Fine X) (hn : n < 1000000) (h2 : ¬ Two X i j) :
    Calls Try.prog 32 #[.pointer (some ⟨b, 0, none⟩), .pointer (some ⟨x, 0, none⟩), .agg #[.int .i64 8, .int .i64 i, .int .i64 j, .int .i64 m.f0, .int .i64 m.f1, .string m.f2, .bool all]] w fun e w' => e = .returned (.bool true) ∧ Duo w0 w' b c x o (n + 1) (X) (X) ∧ Chg (SD b c x o) w w' := by
  have H0 := Aside0.mk h0
  have HF := Aside0.mk hF
  have HN := Aside0.mk hn
  clear h0 hF hn
  have H2 := Aside0.mk h2
  have HD := Aside0.mk (fun w1 (h : Duo w0 w1 b c x o n X X) => h.join HF.out i j)
  rw [nJoin_no h2] at HD
  clear h2
  go_enter Try.func32, Try.ntmps32
  go_wp2_with (first | ((with_reducible refine gate_dst (N := 5) rfl ?_); refine box_event ?hg (N := 5) ?hd (cs := #[.int .i64 8, .int .i64 i, .int .i64 j, .int .i64 m.f0, .int .i64 m.f1, .string m.f2, .bool all]) (t := 41) ?hr ?_; (case hd => rfl); (case hg => rfl); (case hr => first | (go_simp; done) | (go_simp; rfl)); intro gA hgA w1 hbox hb1; have HB := Aside0.mk (DuoB.mk (H0.out.quiet (Chg.of_below hb1 _)) hbox (H0.out.away (Nat.le_of_eq hgA.symm)) (Chg.of_below hb1 _)); obtain ⟨d0, d1, d2, d3, d4, d5, d6, f0, f1, f2, f3, f4, f5, f6⟩ := box7 hbox; have lgA := blk_lt hbox; clear hb1 hbox hgA) | (go_at_call 19; (with_reducible refine (HB.out.duo.rtwo_no H2.out).mono ?_); rintro e w2 ⟨rfl, rfl⟩) | (go_at_call 24; (with_reducible refine (HB.out.call (HD.out _ HB.out.duo)).mono ?_); rintro e w2 ⟨rfl, hB⟩; clear lgA d0 d1 d2 d3 d4 d5 d6 f0 f1 f2 f3 f4 f5 f6; have n0 := Aside0.mk hB; clear HB hB; have HB := n0; clear n0; obtain ⟨d0, d1, d2, d3, d4, d5, d6, f0, f1, f2, f3, f4, f5, f6⟩ := box7 HB.out.box; have lgA := blk_lt HB.out.box))
  go_ret
  exact ⟨rfl, HB.out.duo.more (Nat.le_succ _), HB.out.chg⟩
set_option maxHeartbeats 4000000 in
set_option maxRecDepth 100000 in
theorem mark_join (w0 w : World) (b c x o n : Nat) (X : Nt) (i j : Int) (m : Msg) (all : Bool) (h0 : Duo w0 w b c x o n X X) (hF : Fine X) (hn : n < 1000000) (h2 : Two X i j) :
    Calls Try.prog 32 #[.pointer (some ⟨b, 0, none⟩), .pointer (some ⟨x, 0, none⟩), .agg #[.int .i64 8, .int .i64 i, .int .i64 j, .int .i64 m.f0, .int .i64 m.f1, .string m.f2, .bool all]] w fun e w' => e = .returned (.bool true) ∧ Duo w0 w' b c x o (n + 1) (cutX X i j false) (cutX X i j false) ∧ Chg (SD b c x o) w w' := by
  have H0 := Aside0.mk h0
  have HF := Aside0.mk hF
  have HN := Aside0.mk hn
  clear h0 hF hn
  have HND : Aside0 (Nd i ∧ Nd j ∧ i ≠ j) := ⟨by have := HF.out.few; unfold Two at h2; unfold Few at this; unfold Nd; omega⟩
  have H2 := Aside0.mk h2
  have HD := Aside0.mk (fun w1 (h : Duo w0 w1 b c x o n X (cutX X i j false)) => h.join HF.out i j)
  rw [nJoin_yes h2] at HD
  clear h2
  go_enter Try.func32, Try.ntmps32
  go_wp2_with (first | ((with_reducible refine gate_dst (N := 5) rfl ?_); refine box_event ?hg (N := 5) ?hd (cs := #[.int .i64 8, .int .i64 i, .int .i64 j, .int .i64 m.f0, .int .i64 m.f1, .string m.f2, .bool all]) (t := 41) ?hr ?_; (case hd => rfl); (case hg => rfl); (case hr => first | (go_simp; done) | (go_simp; rfl)); intro gA hgA w1 hbox hb1; have HB := Aside0.mk (DuoB.mk (H0.out.quiet (Chg.of_below hb1 _)) hbox (H0.out.away (Nat.le_of_eq hgA.symm)) (Chg.of_below hb1 _)); obtain ⟨d0, d1, d2, d3, d4, d5, d6, f0, f1, f2, f3, f4, f5, f6⟩ := box7 hbox; have lgA := blk_lt hbox; clear hb1 hbox hgA) | (go_at_call 19; (with_reducible refine (HB.out.duo.rtwo_yes H2.out).mono ?_); rintro e w2 ⟨rfl, rfl⟩) | (go_at_call 37; (with_reducible refine (HB.out.call (HB.out.duo.rset HND.out.1 HND.out.2.1 HND.out.2.2 false)).mono ?_); rintro e w2 ⟨rfl, hB⟩; clear lgA d0 d1 d2 d3 d4 d5 d6 f0 f1 f2 f3 f4 f5 f6; have n0 := Aside0.mk hB; clear HB hB; have HB := n0; clear n0; obtain ⟨d0, d1, d2, d3, d4, d5, d6, f0, f1, f2, f3, f4, f5, f6⟩ := box7 HB.out.box; have lgA := blk_lt HB.out.box) | (go_at_call 24; (with_reducible refine (HB.out.call (HD.out _ HB.out.duo)).mono ?_); rintro e w2 ⟨rfl, hB⟩; clear lgA d0 d1 d2 d3 d4 d5 d6 f0 f1 f2 f3 f4 f5 f6; have n0 := Aside0.mk hB; clear HB hB; have HB := n0; clear n0; obtain ⟨d0, d1, d2, d3, d4, d5, d6, f0, f1, f2, f3, f4, f5, f6⟩ := box7 HB.out.box; have lgA := blk_lt HB.out.box))
  go_ret
  exact ⟨rfl, HB.out.duo.more (Nat.le_succ _), HB.out.chg⟩
set_option maxHeartbeats 4000000 in
set_option maxRecDepth 100000 in
theorem mark_cut_no (w0 w : World) (b c x o n : Nat) (X : Nt) (i j : Int) (m : Msg) (all : Bool) (h0 : Duo w0 w b c x o n X X) (hF : Fine X) (hn : n < 1000000) (h2 : ¬ Two X i j) :
    Calls Try.prog 32 #[.pointer (some ⟨b, 0, none⟩), .pointer (some ⟨x, 0, none⟩), .agg #[.int .i64 7, .int .i64 i, .int .i64 j, .int .i64 m.f0, .int .i64 m.f1, .string m.f2, .bool all]] w fun e w' => e = .returned (.bool true) ∧ Duo w0 w' b c x o (n + 1) (X) (X) ∧ Chg (SD b c x o) w w' := by
  have H0 := Aside0.mk h0
  have HF := Aside0.mk hF
  have HN := Aside0.mk hn
  clear h0 hF hn
  have H2 := Aside0.mk h2
  have HD := Aside0.mk (fun w1 (h : Duo w0 w1 b c x o n X X) => h.cut HF.out HN.out i j all)
  rw [nCut_no h2] at HD
  clear h2
  go_enter Try.func32, Try.ntmps32
  go_wp2_with (first | ((with_reducible refine gate_dst (N := 5) rfl ?_); refine box_event ?hg (N := 5) ?hd (cs := #[.int .i64 7, .int .i64 i, .int .i64 j, .int .i64 m.f0, .int .i64 m.f1, .string m.f2, .bool all]) (t := 41) ?hr ?_; (case hd => rfl); (case hg => rfl); (case hr => first | (go_simp; done) | (go_simp; rfl)); intro gA hgA w1 hbox hb1; have HB := Aside0.mk (DuoB.mk (H0.out.quiet (Chg.of_below hb1 _)) hbox (H0.out.away (Nat.le_of_eq hgA.symm)) (Chg.of_below hb1 _)); obtain ⟨d0, d1, d2, d3, d4, d5, d6, f0, f1, f2, f3, f4, f5, f6⟩ := box7 hbox; have lgA := blk_lt hbox; clear hb1 hbox hgA) | (go_at_call 19; (with_reducible refine (HB.out.duo.rtwo_no H2.out).mono ?_); rintro e w2 ⟨rfl, rfl⟩) | (go_at_call 23; (with_reducible refine (HB.out.call (HD.out _ HB.out.duo)).mono ?_); rintro e w2 ⟨rfl, hB⟩; clear lgA d0 d1 d2 d3 d4 d5 d6 f0 f1 f2 f3 f4 f5 f6; have n0 := Aside0.mk hB; clear HB hB; have HB := n0; clear n0; obtain ⟨d0, d1, d2, d3, d4, d5, d6, f0, f1, f2, f3, f4, f5, f6⟩ := box7 HB.out.box; have lgA := blk_lt HB.out.box))
  go_ret
  exact ⟨rfl, HB.out.duo, HB.out.chg⟩
set_option maxHeartbeats 4000000 in
set_option maxRecDepth 100000 in
theorem mark_cut (w0 w : World) (b c x o n : Nat) (X : Nt) (i j : Int) (m : Msg) (h0 : Duo w0 w b c x o n X X) (hF : Fine X) (hn : n < 1000000) (h2 : Two X i j) :
    Calls Try.prog 32 #[.pointer (some ⟨b, 0, none⟩), .pointer (some ⟨x, 0, none⟩), .agg #[.int .i64 7, .int .i64 i, .int .i64 j, .int .i64 m.f0, .int .i64 m.f1, .string m.f2, .bool false]] w fun e w' => e = .returned (.bool true) ∧ Duo w0 w' b c x o (n + 1) (cutX X i j true) (cutX X i j true) ∧ Chg (SD b c x o) w w' := by
  have H0 := Aside0.mk h0
  have HF := Aside0.mk hF
  have HN := Aside0.mk hn
  clear h0 hF hn
  have HND : Aside0 (Nd i ∧ Nd j ∧ i ≠ j) := ⟨by have := HF.out.few; unfold Two at h2; unfold Few at this; unfold Nd; omega⟩
  have H2 := Aside0.mk h2
  have HD := Aside0.mk (fun w1 (h : Duo w0 w1 b c x o n X (cutX X i j true)) => h.cut HF.out HN.out i j false)
  rw [nCut_yes h2] at HD
  have hl := HF.out.len
  have s1 : IntKind.i64.wrap ((X.l.length : Int) - 1) = (X.l.length : Int) - 1 := IntWalk.i64_in _ (by omega)
  have hc0 : (0 : Int) ≤ (X.l.length : Int) - 1 ∨ ¬ (0 : Int) ≤ (X.l.length : Int) - 1 := by omega
  obtain ⟨z, hz⟩ : ∃ z, (X.l.length : Int) - 1 = z := ⟨_, rfl⟩
  rw [hz] at hc0
  have HZ := Aside0.mk hz
  clear h2 hz s1
  go_enter Try.func32, Try.ntmps32
  go_wp2_with (first | ((with_reducible refine gate_dst (N := 5) rfl ?_); refine box_event ?hg (N := 5) ?hd (cs := #[.int .i64 7, .int .i64 i, .int .i64 j, .int .i64 m.f0, .int .i64 m.f1, .string m.f2, .bool false]) (t := 41) ?hr ?_; (case hd => rfl); (case hg => rfl); (case hr => first | (go_simp; done) | (go_simp; rfl)); intro gA hgA w1 hbox hb1; have HB := Aside0.mk (DuoB.mk (H0.out.quiet (Chg.of_below hb1 _)) hbox (H0.out.away (Nat.le_of_eq hgA.symm)) (Chg.of_below hb1 _)); obtain ⟨d0, d1, d2, d3, d4, d5, d6, f0, f1, f2, f3, f4, f5, f6⟩ := box7 hbox; have lgA := blk_lt hbox; clear hb1 hbox hgA) | (go_at_call 19; (with_reducible refine (HB.out.duo.rtwo_yes H2.out).mono ?_); rintro e w2 ⟨rfl, rfl⟩) | (go_at_call 37; (with_reducible refine (HB.out.call (HB.out.duo.rset HND.out.1 HND.out.2.1 HND.out.2.2 true)).mono ?_); rintro e w2 ⟨rfl, hB⟩; clear lgA d0 d1 d2 d3 d4 d5 d6 f0 f1 f2 f3 f4 f5 f6; have n0 := Aside0.mk hB; clear HB hB; have HB := n0; clear n0; obtain ⟨d0, d1, d2, d3, d4, d5, d6, f0, f1, f2, f3, f4, f5, f6⟩ := box7 HB.out.box; have lgA := blk_lt HB.out.box; obtain ⟨-, ⟨A, kk, t0, -, -⟩, -, -, -⟩ := HB.out.duo.ref.open; have t1 : w2.cell? ⟨x, 1, none⟩ = some (.slice A X.l.length kk) := t0; clear t0; have lx := HB.out.duo.lt.2.2.1))
  go_loopg [8] 1 (fun kq vi wr => vi = .int .i64 z ∧ wr = w2)
  case atStart => exact ⟨by first | rfl | (rw [HZ.out]), rfl⟩
  case round =>
    obtain ⟨rfl, hw⟩ := hrel
    subst hw
    rcases hc0 with hc0 | hc0
    all_goals
      go_wp2_with (first | (go_at_call 23; (with_reducible refine (HB.out.call (HD.out _ HB.out.duo)).mono ?_); rintro e w2 ⟨rfl, hB⟩; clear lgA d0 d1 d2 d3 d4 d5 d6 f0 f1 f2 f3 f4 f5 f6; have n0 := Aside0.mk hB; clear HB hB; have HB := n0; clear n0; obtain ⟨d0, d1, d2, d3, d4, d5, d6, f0, f1, f2, f3, f4, f5, f6⟩ := box7 HB.out.box; have lgA := blk_lt HB.out.box))
      go_ret
      exact ⟨rfl, HB.out.duo, HB.out.chg⟩
theorem leftX_keep {mn mx : Int} {X : Nt} {k : Nat} (h : k < X.l.length) (hm : meantB mn mx X.l[k] = false) : leftX mn mx X (k + 1) = leftX mn mx X k := by
  unfold leftX
  rw [left_keep h hm, leftN_succ h, if_neg (by rw [hm]; decide), Int.add_zero]
theorem leftX_take {mn mx : Int} {X : Nt} {k : Nat} (h : k < X.l.length) (hm : meantB mn mx X.l[k] = true) : ({ leftX mn mx X (k + 1) with l := takeL (leftX mn mx X (k + 1)).l k, lost := (leftX mn mx X (k + 1)).lost + 1 } : Nt) = leftX mn mx X k := by
  unfold leftX
  dsimp only
  rw [left_take h hm, leftN_succ h, if_pos hm, Int.add_assoc]
theorem down_val (k : Nat) : k = 0 ∧ Value.int .i64 ((k : Int) - 1) = .int .i64 (-1) ∨ ∃ j : Nat, k = j + 1 ∧ Value.int .i64 ((k : Int) - 1) = .int .i64 (j : Int) := by
  rcases k with _ | k
  · exact .inl ⟨rfl, rfl⟩
  · refine .inr ⟨k, rfl, ?_⟩
    have e : ((k + 1 : Nat) : Int) - 1 = (k : Int) := by omega
    rw [e]
set_option maxHeartbeats 4000000 in
set_option maxRecDepth 100000 in
theorem mark_cut_all (w0 w : World) (b c x o n : Nat) (X : Nt) (i j : Int) (m : Msg) (h0 : Duo w0 w b c x o n X X) (hF : Fine X) (hn : n < 1000000) (h2 : Two X i j) :
    Calls Try.prog 32 #[.pointer (some ⟨b, 0, none⟩), .pointer (some ⟨x, 0, none⟩), .agg #[.int .i64 7, .int .i64 i, .int .i64 j, .int .i64 m.f0, .int .i64 m.f1, .string m.f2, .bool true]] w fun e w' => e = .returned (.bool true) ∧ Duo w0 w' b c x o (n + 1) (keepX (cutX X i j true) (min i j) (max i j)) (keepX (cutX X i j true) (min i j) (max i j)) ∧ Chg (SD b c x o) w w' := by
  have H0 := Aside0.mk h0
  have HF := Aside0.mk hF
  have HN := Aside0.mk hn
  clear h0 hF hn
  have HND : Aside0 (Nd i ∧ Nd j ∧ i ≠ j) := ⟨by have := HF.out.few; unfold Two at h2; unfold Few at this; unfold Nd; omega⟩
  have H2 := Aside0.mk h2
  have HD := Aside0.mk (fun w1 (h : Duo w0 w1 b c x o n X (keepX (cutX X i j true) (min i j) (max i j))) => h.cut HF.out HN.out i j true)
  rw [nCut_all h2] at HD
  have HME := Aside0.mk (fun m => meant_is (p := i) (q := j) (m := m))
  have hij : i ≠ j := HND.out.2.2
  have HRS := Aside0.mk (fun w1 (h : Duo w0 w1 b c x o n X X) => h.rset HND.out.1 HND.out.2.1 HND.out.2.2 true)
  obtain ⟨Y0, hY⟩ : ∃ Y0, cutX X i j true = Y0 := ⟨_, rfl⟩
  rw [hY] at HRS HD ⊢
  have hY1 : Y0.l = X.l := by rw [← hY]; rfl
  have hY2 : Y0.lost = X.lost := by rw [← hY]; rfl
  have HY := Aside0.mk hY1
  have HY2 := Aside0.mk hY2
  clear hY hY1 hY2
  generalize min i j = mn at *
  generalize max i j = mx at *
  have hl := HF.out.len
  obtain ⟨z1, hz⟩ : ∃ z, (X.l.length : Int) - 1 = z := ⟨_, rfl⟩
  have HZ := Aside0.mk hz
  clear h2 hz
  go_enter Try.func32, Try.ntmps32
  go_wp2_with (first | ((with_reducible refine gate_dst (N := 5) rfl ?_); refine box_event ?hg (N := 5) ?hd (cs := #[.int .i64 7, .int .i64 i, .int .i64 j, .int .i64 m.f0, .int .i64 m.f1, .string m.f2, .bool true]) (t := 41) ?hr ?_; (case hd => rfl); (case hg => rfl); (case hr => first | (go_simp; done) | (go_simp; rfl)); intro gA hgA w1 hbox hb1; have HB := Aside0.mk (DuoB.mk (H0.out.quiet (Chg.of_below hb1 _)) hbox (H0.out.away (Nat.le_of_eq hgA.symm)) (Chg.of_below hb1 _)); obtain ⟨d0, d1, d2, d3, d4, d5, d6, f0, f1, f2, f3, f4, f5, f6⟩ := box7 hbox; have lgA := blk_lt hbox; clear hb1 hbox hgA) | (go_at_call 19; (with_reducible refine (HB.out.duo.rtwo_yes H2.out).mono ?_); rintro e w2 ⟨rfl, rfl⟩) | (go_at_call 37; (with_reducible refine (HB.out.call (HRS.out _ HB.out.duo)).mono ?_); rintro e w2 ⟨rfl, hB⟩; clear lgA d0 d1 d2 d3 d4 d5 d6 f0 f1 f2 f3 f4 f5 f6; have n0 := Aside0.mk hB; clear HB hB; have HB := n0; clear n0; obtain ⟨d0, d1, d2, d3, d4, d5, d6, f0, f1, f2, f3, f4, f5, f6⟩ := box7 HB.out.box; have lgA := blk_lt HB.out.box; obtain ⟨-, ⟨A, kk, t0, -, -⟩, -, -, -⟩ := HB.out.duo.ref.open; have t1 : w2.cell? ⟨x, 1, none⟩ = some (.slice A X.l.length kk) := (by rw [← HY.out]; exact t0); clear t0; have lx := HB.out.duo.lt.2.2.1))
  have n0 := Aside0.mk HB.out
  rw [← leftX_all (mn := mn) (mx := mx) Y0] at n0
  clear HB d0 d1 d2 d3 d4 d5 d6 f0 f1 f2 f3 f4 f5 f6 t1 lgA
  go_loopg [8] Y0.l.length (fun kq vi wr => ∃ k : Nat, Aside0 (k = kq ∧ k ≤ Y0.l.length) ∧ (k = 0 ∧ vi = .int .i64 (-1) ∨ ∃ jx : Nat, k = jx + 1 ∧ vi = .int .i64 (jx : Int)) ∧ Aside0 (DuoB w0 w wr b c x o n X (leftX mn mx Y0 k) gA #[.int .i64 7, .int .i64 i, .int .i64 j, .int .i64 m.f0, .int .i64 m.f1, .string m.f2, .bool true] 41))
  case atStart =>
    refine ⟨_, ⟨rfl, Nat.le_refl _⟩, ?_, n0⟩
    have hd := down_val Y0.l.length
    rw [HY.out] at hd ⊢
    exact hd
  case round =>
    clear n0 HZ
    obtain ⟨k, HK, hv, HB⟩ := hrel
    obtain ⟨d0, d1, d2, d3, d4, d5, d6, -⟩ := box7 HB.out.box
    have lgA := blk_lt HB.out.box
    rcases hv with ⟨rfl, rfl⟩ | ⟨jx, rfl, rfl⟩
    · have n1 := Aside0.mk HB.out
      rw [leftX_none] at n1
      clear HB
      have HB := n1
      clear n1
      go_wp2_with (first | (go_at_call 23; (with_reducible refine (HB.out.call (HD.out _ HB.out.duo)).mono ?_); rintro e w2 ⟨rfl, hB⟩; have HB2 := Aside0.mk hB; clear hB))
      go_ret
      exact ⟨rfl, HB2.out.duo, HB2.out.chg⟩
    · have hjx : jx < Y0.l.length := by have := HK.out.2; omega
      have HJ := Aside0.mk hjx
      have HLT : Aside0 (jx < (leftX mn mx Y0 (jx + 1)).l.length) := ⟨left_len hjx⟩
      have HLE : Aside0 ((leftX mn mx Y0 (jx + 1)).l.length ≤ 256) := ⟨by have h1 := left_le (mn := mn) (mx := mx) (l := Y0.l) (k := jx + 1) (by omega); have h2 := HF.out.len; rw [← HY.out] at h2; exact Nat.le_trans h1 h2⟩
      obtain ⟨-, ⟨A, kk, t1, -, hR⟩, -, -, -⟩ := HB.out.duo.ref.open
      have lx := HB.out.duo.lt.2.2.1
      obtain ⟨ad, rfl, y0, y1, y2⟩ := msg_cells hR.fC jx HLT.out
      rw [show (leftX mn mx Y0 (jx + 1)).l[jx]'HLT.out = Y0.l[jx] from left_get hjx] at y0 y1 y2
      have lad := World.block_lt_of_cell? wr _ y0
      obtain ⟨N, hN⟩ : ∃ N, (leftX mn mx Y0 (jx + 1)).l.length = N := ⟨_, rfl⟩
      rw [hN] at t1
      have b0 : (0 : Int) ≤ (jx : Int) := by omega
      have b1 : (jx : Int) < (N : Int) := by have := HLT.out; omega
      have b2 : (N : Int) ≤ 256 := by have := HLE.out; omega
      obtain ⟨z, hz⟩ : ∃ z, (leftX mn mx Y0 (jx + 1)).lost = z := ⟨_, rfl⟩
      have HZZ := Aside0.mk hz
      have z0 : 0 ≤ z ∧ z ≤ 1152921504606847232 := by
        have h1 := leftN_bd (mn := mn) (mx := mx) (l := Y0.l) (k := jx + 1) (by omega)
        have h2 := HF.out.l0
        have h3 := HF.out.l1
        have h4 := HF.out.len
        rw [← HY.out] at h4
        have h5 : (leftX mn mx Y0 (jx + 1)).lost = Y0.lost + leftN mn mx Y0.l (jx + 1) := rfl
        rw [HY2.out] at h5
        omega
      obtain ⟨z0, z1⟩ := z0
      have HKE : Aside0 (meantB mn mx Y0.l[jx] = false → leftX mn mx Y0 (jx + 1) = leftX mn mx Y0 jx) := ⟨leftX_keep hjx⟩
      have HTK : Aside0 (meantB mn mx Y0.l[jx] = true → ({ leftX mn mx Y0 (jx + 1) with l := takeL (leftX mn mx Y0 (jx + 1)).l jx, lost := (leftX mn mx Y0 (jx + 1)).lost + 1 } : Nt) = leftX mn mx Y0 jx) := ⟨leftX_take hjx⟩
      have hmi := HME.out Y0.l[jx]
      have HTR : Aside0 ((leftX mn mx Y0 (jx + 1)).l[jx]'HLT.out = Y0.l[jx]) := ⟨left_get hjx⟩
      generalize Y0.l[jx] = mm at *
      clear hR hN hz hjx
      have hcs : (mm.f0 = i ∧ mm.f1 = j) ∨ (mm.f0 = i ∧ mm.f1 ≠ j ∧ mm.f0 ≠ j) ∨ (mm.f0 ≠ i ∧ mm.f0 = j ∧ mm.f1 = i) ∨ (mm.f0 ≠ i ∧ mm.f0 = j ∧ mm.f1 ≠ i) ∨ (mm.f0 ≠ i ∧ mm.f0 ≠ j) := by omega
      have HDV := Aside0.mk (down_val jx)
      rcases hcs with ⟨c1, c2⟩ | ⟨c1, c2, c3⟩ | ⟨c1, c3, c4⟩ | ⟨c1, c3, c4⟩ | ⟨c1, c3⟩
      case inl =>
        have HMT := Aside0.mk (HTK.out (hmi.2 (by omega)))
        have e1 : (mm.f0 == i) = true := by simpa using c1
        have e2 : (mm.f1 == j) = true := by simpa using c2
        clear hmi c1 c2
        go_wp2_with (first | (go_at_call 31; (with_reducible refine ((HB.out.quiet (w' := (wr.alloc (.cells #[.int .i64 mm.f0, .int .i64 mm.f1, .string mm.f2] 30 (0, 0)))) ((Chg.refl _ _).alloc _)).call ((HB.out.quiet (w' := (wr.alloc (.cells #[.int .i64 mm.f0, .int .i64 mm.f1, .string mm.f2] 30 (0, 0)))) ((Chg.refl _ _).alloc _)).duo.rtake jx HLT.out HLE.out)).mono ?_); rintro e w3 ⟨rfl, hB⟩; clear d0 d1 d2 d3 d4 d5 d6 y0 y1 y2 t1 lgA lad; have HB3 := Aside0.mk hB; clear hB; have t3 : w3.cell? ⟨x, 3, none⟩ = some (.int .i64 z) := (HB3.out.duo.ref.open.2.2.2.1).trans (by rw [← HZZ.out]); have tf := HB3.out.duo.ref.open.2.2.2.2 3; have lx3 := HB3.out.duo.lt.2.2.1))
        go_roundg jx
        case measure => have := HK.out.1; omega
        case rel =>
          have HE := HB3.out.of (HB3.out.duo.rlost (z + 1))
          rw [← HZZ.out] at HE ⊢
          refine ⟨jx, ⟨rfl, by have := HJ.out; omega⟩, HDV.out, ⟨?_⟩⟩
          rw [← HMT.out]
          exact HE
      case inr.inl =>
        have HMT := Aside0.mk (HKE.out (by cases hb : meantB mn mx mm; rfl; exact absurd (hmi.1 hb) (by omega)))
        have e1 : (mm.f0 == i) = true := by simpa using c1
        have e2 : (mm.f1 == j) = false := by simpa using c2
        have e3 : (mm.f0 == j) = false := by simpa using c3
        clear hmi c1 c2 c3
        go_wp2_with (first | (go_at_call 31; (with_reducible refine ((HB.out.quiet (w' := (wr.alloc (.cells #[.int .i64 mm.f0, .int .i64 mm.f1, .string mm.f2] 30 (0, 0)))) ((Chg.refl _ _).alloc _)).call ((HB.out.quiet (w' := (wr.alloc (.cells #[.int .i64 mm.f0, .int .i64 mm.f1, .string mm.f2] 30 (0, 0)))) ((Chg.refl _ _).alloc _)).duo.rtake jx HLT.out HLE.out)).mono ?_); rintro e w3 ⟨rfl, hB⟩; clear d0 d1 d2 d3 d4 d5 d6 y0 y1 y2 t1 lgA lad; have HB3 := Aside0.mk hB; clear hB; have t3 : w3.cell? ⟨x, 3, none⟩ = some (.int .i64 z) := (HB3.out.duo.ref.open.2.2.2.1).trans (by rw [← HZZ.out]); have tf := HB3.out.duo.ref.open.2.2.2.2 3; have lx3 := HB3.out.duo.lt.2.2.1))
        go_roundg jx
        case measure => have := HK.out.1; omega
        case rel =>
          refine ⟨jx, ⟨rfl, by have := HJ.out; omega⟩, HDV.out, ⟨?_⟩⟩
          rw [← HMT.out]
          exact HB.out.quiet ((Chg.refl _ _).alloc _)
      case inr.inr.inl =>
        have HMT := Aside0.mk (HTK.out (hmi.2 (by omega)))
        have e1 : (mm.f0 == i) = false := by simpa using c1
        have e3 : (mm.f0 == j) = true := by simpa using c3
        have e4 : (mm.f1 == i) = true := by simpa using c4
        clear hmi c1 c3 c4
        go_wp2_with (first | (go_at_call 31; (with_reducible refine ((HB.out.quiet (w' := (wr.alloc (.cells #[.int .i64 mm.f0, .int .i64 mm.f1, .string mm.f2] 30 (0, 0)))) ((Chg.refl _ _).alloc _)).call ((HB.out.quiet (w' := (wr.alloc (.cells #[.int .i64 mm.f0, .int .i64 mm.f1, .string mm.f2] 30 (0, 0)))) ((Chg.refl _ _).alloc _)).duo.rtake jx HLT.out HLE.out)).mono ?_); rintro e w3 ⟨rfl, hB⟩; clear d0 d1 d2 d3 d4 d5 d6 y0 y1 y2 t1 lgA lad; have HB3 := Aside0.mk hB; clear hB; have t3 : w3.cell? ⟨x, 3, none⟩ = some (.int .i64 z) := (HB3.out.duo.ref.open.2.2.2.1).trans (by rw [← HZZ.out]); have tf := HB3.out.duo.ref.open.2.2.2.2 3; have lx3 := HB3.out.duo.lt.2.2.1))
        go_roundg jx
        case measure => have := HK.out.1; omega
        case rel =>
          have HE := HB3.out.of (HB3.out.duo.rlost (z + 1))
          rw [← HZZ.out] at HE ⊢
          refine ⟨jx, ⟨rfl, by have := HJ.out; omega⟩, HDV.out, ⟨?_⟩⟩
          rw [← HMT.out]
          exact HE
      case inr.inr.inr.inl =>
        have HMT := Aside0.mk (HKE.out (by cases hb : meantB mn mx mm; rfl; exact absurd (hmi.1 hb) (by omega)))
        have e1 : (mm.f0 == i) = false := by simpa using c1
        have e3 : (mm.f0 == j) = true := by simpa using c3
        have e4 : (mm.f1 == i) = false := by simpa using c4
        clear hmi c1 c3 c4
        go_wp2_with (first | (go_at_call 31; (with_reducible refine ((HB.out.quiet (w' := (wr.alloc (.cells #[.int .i64 mm.f0, .int .i64 mm.f1, .string mm.f2] 30 (0, 0)))) ((Chg.refl _ _).alloc _)).call ((HB.out.quiet (w' := (wr.alloc (.cells #[.int .i64 mm.f0, .int .i64 mm.f1, .string mm.f2] 30 (0, 0)))) ((Chg.refl _ _).alloc _)).duo.rtake jx HLT.out HLE.out)).mono ?_); rintro e w3 ⟨rfl, hB⟩; clear d0 d1 d2 d3 d4 d5 d6 y0 y1 y2 t1 lgA lad; have HB3 := Aside0.mk hB; clear hB; have t3 : w3.cell? ⟨x, 3, none⟩ = some (.int .i64 z) := (HB3.out.duo.ref.open.2.2.2.1).trans (by rw [← HZZ.out]); have tf := HB3.out.duo.ref.open.2.2.2.2 3; have lx3 := HB3.out.duo.lt.2.2.1))
        go_roundg jx
        case measure => have := HK.out.1; omega
        case rel =>
          refine ⟨jx, ⟨rfl, by have := HJ.out; omega⟩, HDV.out, ⟨?_⟩⟩
          rw [← HMT.out]
          exact HB.out.quiet ((Chg.refl _ _).alloc _)
      case inr.inr.inr.inr =>
        have HMT := Aside0.mk (HKE.out (by cases hb : meantB mn mx mm; rfl; exact absurd (hmi.1 hb) (by omega)))
        have e1 : (mm.f0 == i) = false := by simpa using c1
        have e3 : (mm.f0 == j) = false := by simpa using c3
        clear hmi c1 c3
        go_wp2_with (first | (go_at_call 31; (with_reducible refine ((HB.out.quiet (w' := (wr.alloc (.cells #[.int .i64 mm.f0, .int .i64 mm.f1, .string mm.f2] 30 (0, 0)))) ((Chg.refl _ _).alloc _)).call ((HB.out.quiet (w' := (wr.alloc (.cells #[.int .i64 mm.f0, .int .i64 mm.f1, .string mm.f2] 30 (0, 0)))) ((Chg.refl _ _).alloc _)).duo.rtake jx HLT.out HLE.out)).mono ?_); rintro e w3 ⟨rfl, hB⟩; clear d0 d1 d2 d3 d4 d5 d6 y0 y1 y2 t1 lgA lad; have HB3 := Aside0.mk hB; clear hB; have t3 : w3.cell? ⟨x, 3, none⟩ = some (.int .i64 z) := (HB3.out.duo.ref.open.2.2.2.1).trans (by rw [← HZZ.out]); have tf := HB3.out.duo.ref.open.2.2.2.2 3; have lx3 := HB3.out.duo.lt.2.2.1))
        go_roundg jx
        case measure => have := HK.out.1; omega
        case rel =>
          refine ⟨jx, ⟨rfl, by have := HJ.out; omega⟩, HDV.out, ⟨?_⟩⟩
          rw [← HMT.out]
          exact HB.out.quiet ((Chg.refl _ _).alloc _)

end Go.Proofs.Ytclmhodgfhkgcaa.Q

/- The contract of do, every kind. (Printed by gen_mark.py.) -/
namespace Go.Proofs.Ytclmhodgfhkgcaa.Q
open Go.RowKit Go.Proofs.YtclmhodgfhkgcaaW.PrintWords Go.Proofs.YtclmhodgfhkgcaaW.PrintLast Go.Proofs.YtclmhodgfhkgcaaW.PrintMore
set_option linter.unusedVariables false
set_option linter.unusedSimpArgs false

def nStep (X : Nt) (kd i j : Int) (m : Msg) (all : Bool) : Nt :=
  if kd = 0 ∨ kd = 1 ∨ kd = 2 then (nSend X m).2 else if kd = 4 then (nDrop X i).2 else if kd = 5 then (nDouble X i).2 else if kd = 6 then (nMove X i j).2 else if kd = 7 then (nCut X i j all).2 else if kd = 8 then (nJoin X i j).2 else (nDeliver X (if kd = 3 then i else 0)).2
/-- Few messages, few lost, and each between two nodes. -/
structure Good (B : Nat) (X : Nt) : Prop where
  few : Few X
  len : X.l.length ≤ 256
  l0 : 0 ≤ X.lost
  sum : X.lost + X.l.length ≤ B
  two : ∀ m ∈ X.l, Two X m.f0 m.f1
theorem Good.fine {B : Nat} {X : Nt} (h : Good B X) (hB : B ≤ 100000) : Fine X := ⟨h.few, h.len, h.l0, by have := h.sum; omega⟩
theorem mem_takeL {l : List Msg} {k : Nat} {m : Msg} (h : m ∈ takeL l k) : m ∈ l := by
  unfold takeL at h
  rcases List.mem_append.1 h with h | h
  · exact List.mem_of_mem_take h
  · exact List.mem_of_mem_drop h
theorem mem_insL {l : List Msg} {k : Nat} {m y : Msg} (h : m ∈ insL l k y) : m = y ∨ m ∈ l := by
  unfold insL at h
  rcases List.mem_append.1 h with h | h
  · exact .inr (List.mem_of_mem_take h)
  · rcases List.mem_cons.1 h with h | h
    · exact .inl h
    · exact .inr (List.mem_of_mem_drop h)
theorem filter_two (f : Msg → Bool) (l : List Msg) : (l.filter (fun m => !f m)).length + (l.filter f).length = l.length := by
  induction l with
  | nil => rfl
  | cons x l ih =>
    rw [List.filter_cons, List.filter_cons]
    cases f x
    · simp only [Bool.not_false, if_true, Bool.false_eq_true, if_false, List.length_cons]
      omega
    · simp only [Bool.not_true, if_true, Bool.false_eq_true, if_false, List.length_cons]
      omega
theorem is_ex {X : Nt} {i : Int} (h : Is X i) : ∃ k : Nat, i = k ∧ k < X.l.length := ⟨i.toNat, by unfold Is at h; omega, by unfold Is at h; omega⟩
section
variable {B : Nat} {X : Nt}
theorem Good.more (h : Good B X) : Good (B + 1) X := ⟨h.few, h.len, h.l0, by have := h.sum; omega, h.two⟩
theorem Good.cutX (h : Good B X) (p q : Int) (t : Bool) : Good B (cutX X p q t) := ⟨h.few, h.len, h.l0, h.sum, h.two⟩
theorem Good.keep (h : Good B X) (mn mx : Int) : Good B (keepX X mn mx) := by
  have e := filter_two (meantB mn mx) X.l
  obtain ⟨p, hp⟩ : ∃ p, (X.l.filter (fun m => !meantB mn mx m)).length = p := ⟨_, rfl⟩
  obtain ⟨q, hq⟩ : ∃ q, (X.l.filter (meantB mn mx)).length = q := ⟨_, rfl⟩
  rw [hp, hq] at e
  have h1 := h.l0
  have h2 := h.sum
  have h3 := h.len
  refine ⟨h.few, ?_, ?_, ?_, fun m hm => h.two m (List.mem_filter.1 hm).1⟩
  · show (X.l.filter (fun m => !meantB mn mx m)).length ≤ 256
    rw [hp]
    omega
  · show 0 ≤ X.lost + ((X.l.filter (meantB mn mx)).length : Int)
    rw [hq]
    omega
  · show X.lost + ((X.l.filter (meantB mn mx)).length : Int) + ((X.l.filter (fun m => !meantB mn mx m)).length : Int) ≤ B
    rw [hp, hq]
    omega
theorem Good.send (h : Good B X) (m : Msg) : Good (B + 1) (nSend X m).2 := by
  unfold nSend
  have h1 := h.l0
  have h2 := h.sum
  split
  · rename_i ht
    split
    · exact h.more
    · split
      · exact ⟨h.few, h.len, by show 0 ≤ X.lost + 1; omega, by show X.lost + 1 + (X.l.length : Int) ≤ _; omega, h.two⟩
      · split
        · exact ⟨h.few, h.len, by show 0 ≤ X.lost + 1; omega, by show X.lost + 1 + (X.l.length : Int) ≤ _; omega, h.two⟩
        · refine ⟨h.few, by show (X.l ++ [m]).length ≤ 256; simp; omega, h.l0, by show X.lost + ((X.l ++ [m]).length : Int) ≤ _; simp; omega, fun y hy => ?_⟩
          rcases List.mem_append.1 hy with hy | hy
          · exact h.two y hy
          · rw [List.mem_singleton.1 hy]
            exact ht
  · exact h.more
theorem Good.drop (h : Good B X) (i : Int) : Good (B + 1) (nDrop X i).2 := by
  by_cases hi : Is X i
  · obtain ⟨k, rfl, hk⟩ := is_ex hi
    rw [nDrop_yes hk]
    have e := takeL_len hk
    have h1 := h.l0
    have h2 := h.sum
    have h3 := h.len
    exact ⟨h.few, by show (takeL X.l k).length ≤ 256; omega, by show 0 ≤ X.lost + 1; omega, by show X.lost + 1 + ((takeL X.l k).length : Int) ≤ _; omega, fun m hm => h.two m (mem_takeL hm)⟩
  · rw [nDrop_no hi]
    exact h.more
theorem Good.double (h : Good B X) (i : Int) : Good (B + 1) (nDouble X i).2 := by
  by_cases hi : Is X i
  · by_cases hf : 256 ≤ X.l.length
    · rw [nDouble_full hi hf]
      exact h.more
    · obtain ⟨k, rfl, hk⟩ := is_ex hi
      rw [nDouble_yes hk hf]
      have h2 := h.sum
      refine ⟨h.few, by show (X.l ++ [X.l[k]]).length ≤ 256; simp; omega, h.l0, by show X.lost + ((X.l ++ [X.l[k]]).length : Int) ≤ _; simp; omega, fun y hy => ?_⟩
      rcases List.mem_append.1 hy with hy | hy
      · exact h.two y hy
      · rw [List.mem_singleton.1 hy]
        exact h.two _ (List.getElem_mem hk)
  · rw [nDouble_no hi]
    exact h.more
theorem Good.move (h : Good B X) (i j : Int) : Good (B + 1) (nMove X i j).2 := by
  by_cases hi : Is X i ∧ Is X j
  · obtain ⟨k, rfl, hk⟩ := is_ex hi.1
    obtain ⟨k2, rfl, hk2⟩ := is_ex hi.2
    rw [nMove_yes hk hk2]
    have e := takeL_len hk
    have e2 := insL_len (l := takeL X.l k) (m := X.l[k]) (j := k2) (by omega)
    have h2 := h.sum
    have h3 := h.len
    refine ⟨h.few, by show (insL (takeL X.l k) k2 X.l[k]).length ≤ 256; omega, h.l0, by show X.lost + ((insL (takeL X.l k) k2 X.l[k]).length : Int) ≤ _; omega, fun y hy => ?_⟩
    rcases mem_insL hy with hy | hy
    · rw [hy]
      exact h.two _ (List.getElem_mem hk)
    · exact h.two y (mem_takeL hy)
  · rw [nMove_no hi]
    exact h.more
theorem Good.cut (h : Good B X) (i j : Int) (all : Bool) : Good (B + 1) (nCut X i j all).2 := by
  unfold nCut
  split
  · show Good (B + 1) (if all then _ else _)
    split
    · exact ((h.cutX i j true).keep _ _).more
    · exact (h.cutX i j true).more
  · exact h.more
theorem Good.join (h : Good B X) (i j : Int) : Good (B + 1) (nJoin X i j).2 := by
  unfold nJoin
  split
  · exact (h.cutX i j false).more
  · exact h.more
theorem Good.deliver (h : Good B X) (i : Int) : Good (B + 1) (nDeliver X i).2 := by
  by_cases hi : Is X i
  · obtain ⟨k, rfl, hk⟩ := is_ex hi
    have e := takeL_len hk
    have h1 := h.l0
    have h2 := h.sum
    have h3 := h.len
    cases hc : isCut X X.l[k].f0 X.l[k].f1
    · rw [nDeliver_ok hk (h.two _ (List.getElem_mem hk)) hc]
      exact ⟨h.few, by show (takeL X.l k).length ≤ 256; omega, h.l0, by show X.lost + ((takeL X.l k).length : Int) ≤ _; omega, fun m hm => h.two m (mem_takeL hm)⟩
    · rw [nDeliver_cut hk hc]
      exact ⟨h.few, by show (takeL X.l k).length ≤ 256; omega, by show 0 ≤ X.lost + 1; omega, by show X.lost + 1 + ((takeL X.l k).length : Int) ≤ _; omega, fun m hm => h.two m (mem_takeL hm)⟩
  · rw [nDeliver_no hi]
    exact h.more
theorem Good.step (h : Good B X) (kd i j : Int) (m : Msg) (all : Bool) : Good (B + 1) (nStep X kd i j m all) := by
  unfold nStep
  split
  · exact h.send m
  · split
    · exact h.drop i
    · split
      · exact h.double i
      · split
        · exact h.move i j
        · split
          · exact h.cut i j all
          · split
            · exact h.join i j
            · exact h.deliver _
end
set_option maxHeartbeats 4000000 in
set_option maxRecDepth 100000 in
theorem do_mark7 (w0 w : World) (b c x o n : Nat) (X : Nt) (i j : Int) (m : Msg) (all : Bool) (h0 : Duo w0 w b c x o n X X) (hF : Fine X) (T : Nt) (hm : ∀ w1, Duo w0 w1 b c x o n X X → Calls Try.prog 32 #[.pointer (some ⟨b, 0, none⟩), .pointer (some ⟨x, 0, none⟩), .agg #[.int .i64 7, .int .i64 i, .int .i64 j, .int .i64 m.f0, .int .i64 m.f1, .string m.f2, .bool all]] w1 fun e w' => e = .returned (.bool true) ∧ Duo w0 w' b c x o (n + 1) (T) (T) ∧ Chg (SD b c x o) w1 w') :
    Calls Try.prog 16 #[.pointer (some ⟨b, 0, none⟩), .pointer (some ⟨x, 0, none⟩), .agg #[.int .i64 7, .int .i64 i, .int .i64 j, .int .i64 m.f0, .int .i64 m.f1, .string m.f2, .bool all]] w fun e w' => e = .returned (.bool true) ∧ Duo w0 w' b c x o (n + 1) (T) (T) ∧ Chg (SD b c x o) w w' := by
  have H0 := Aside0.mk h0
  have HF := Aside0.mk hF
  clear h0 hF
  have HM := Aside0.mk hm
  clear hm
  go_enter Try.func16, Try.ntmps16
  go_wp2_with (first | ((with_reducible refine gate_dst (N := 5) rfl ?_); refine box_event ?hg (N := 5) ?hd (cs := #[.int .i64 7, .int .i64 i, .int .i64 j, .int .i64 m.f0, .int .i64 m.f1, .string m.f2, .bool all]) (t := 41) ?hr ?_; (case hd => rfl); (case hg => rfl); (case hr => first | (go_simp; done) | (go_simp; rfl)); intro gA hgA w1 hbox hb1; have HB := Aside0.mk (DuoB.mk (H0.out.quiet (Chg.of_below hb1 _)) hbox (H0.out.away (Nat.le_of_eq hgA.symm)) (Chg.of_below hb1 _)); obtain ⟨d0, d1, d2, d3, d4, d5, d6, f0, f1, f2, f3, f4, f5, f6⟩ := box7 hbox; have lgA := blk_lt hbox; clear hb1 hbox hgA) | (go_at_call 32; (with_reducible refine (HB.out.call (HM.out _ HB.out.duo)).mono ?_); rintro e w2 ⟨rfl, hB⟩; clear lgA d0 d1 d2 d3 d4 d5 d6 f0 f1 f2 f3 f4 f5 f6; have n0 := Aside0.mk hB; clear HB hB; have HB := n0; clear n0; obtain ⟨d0, d1, d2, d3, d4, d5, d6, f0, f1, f2, f3, f4, f5, f6⟩ := box7 HB.out.box; have lgA := blk_lt HB.out.box))
  go_ret
  exact ⟨rfl, HB.out.duo, HB.out.chg⟩
set_option maxHeartbeats 4000000 in
set_option maxRecDepth 100000 in
theorem do_mark8 (w0 w : World) (b c x o n : Nat) (X : Nt) (i j : Int) (m : Msg) (all : Bool) (h0 : Duo w0 w b c x o n X X) (hF : Fine X) (T : Nt) (hm : ∀ w1, Duo w0 w1 b c x o n X X → Calls Try.prog 32 #[.pointer (some ⟨b, 0, none⟩), .pointer (some ⟨x, 0, none⟩), .agg #[.int .i64 8, .int .i64 i, .int .i64 j, .int .i64 m.f0, .int .i64 m.f1, .string m.f2, .bool all]] w1 fun e w' => e = .returned (.bool true) ∧ Duo w0 w' b c x o (n + 1) (T) (T) ∧ Chg (SD b c x o) w1 w') :
    Calls Try.prog 16 #[.pointer (some ⟨b, 0, none⟩), .pointer (some ⟨x, 0, none⟩), .agg #[.int .i64 8, .int .i64 i, .int .i64 j, .int .i64 m.f0, .int .i64 m.f1, .string m.f2, .bool all]] w fun e w' => e = .returned (.bool true) ∧ Duo w0 w' b c x o (n + 1) (T) (T) ∧ Chg (SD b c x o) w w' := by
  have H0 := Aside0.mk h0
  have HF := Aside0.mk hF
  clear h0 hF
  have HM := Aside0.mk hm
  clear hm
  go_enter Try.func16, Try.ntmps16
  go_wp2_with (first | ((with_reducible refine gate_dst (N := 5) rfl ?_); refine box_event ?hg (N := 5) ?hd (cs := #[.int .i64 8, .int .i64 i, .int .i64 j, .int .i64 m.f0, .int .i64 m.f1, .string m.f2, .bool all]) (t := 41) ?hr ?_; (case hd => rfl); (case hg => rfl); (case hr => first | (go_simp; done) | (go_simp; rfl)); intro gA hgA w1 hbox hb1; have HB := Aside0.mk (DuoB.mk (H0.out.quiet (Chg.of_below hb1 _)) hbox (H0.out.away (Nat.le_of_eq hgA.symm)) (Chg.of_below hb1 _)); obtain ⟨d0, d1, d2, d3, d4, d5, d6, f0, f1, f2, f3, f4, f5, f6⟩ := box7 hbox; have lgA := blk_lt hbox; clear hb1 hbox hgA) | (go_at_call 32; (with_reducible refine (HB.out.call (HM.out _ HB.out.duo)).mono ?_); rintro e w2 ⟨rfl, hB⟩; clear lgA d0 d1 d2 d3 d4 d5 d6 f0 f1 f2 f3 f4 f5 f6; have n0 := Aside0.mk hB; clear HB hB; have HB := n0; clear n0; obtain ⟨d0, d1, d2, d3, d4, d5, d6, f0, f1, f2, f3, f4, f5, f6⟩ := box7 HB.out.box; have lgA := blk_lt HB.out.box))
  go_ret
  exact ⟨rfl, HB.out.duo, HB.out.chg⟩

theorem do_calls (w0 w : World) (b c x o n B : Nat) (X : Nt) (kd i j : Int) (m : Msg) (all : Bool) (h0 : Duo w0 w b c x o n X X) (hG : Good B X) (hB : B ≤ 100000) (hn : n < 1000000) :
    Calls Try.prog 16 #[.pointer (some ⟨b, 0, none⟩), .pointer (some ⟨x, 0, none⟩), .agg #[.int .i64 kd, .int .i64 i, .int .i64 j, .int .i64 m.f0, .int .i64 m.f1, .string m.f2, .bool all]] w fun e w' => e = .returned (.bool true) ∧ Duo w0 w' b c x o (n + 1) (nStep X kd i j m all) (nStep X kd i j m all) ∧ Chg (SD b c x o) w w' := by
  have hF := hG.fine hB
  unfold nStep
  by_cases hk : kd = 0 ∨ kd = 1 ∨ kd = 2
  · rw [if_pos hk]
    exact do_send w0 w b c x o n X kd i j m all h0 hF hk
  rw [if_neg hk]
  by_cases h4 : kd = 4
  · rw [if_pos h4]
    subst h4
    by_cases hi : Is X i
    · obtain ⟨k, rfl, hk⟩ := is_ex hi
      rw [nDrop_yes hk]
      exact do_drop w0 w b c x o n X j m all h0 hF k hk
    · rw [nDrop_no hi]
      exact do_drop_no w0 w b c x o n X i j m all h0 hF hi
  rw [if_neg h4]
  by_cases h5 : kd = 5
  · rw [if_pos h5]
    subst h5
    by_cases hi : Is X i
    · by_cases hf : 256 ≤ X.l.length
      · rw [nDouble_full hi hf]
        exact do_double_full w0 w b c x o n X i j m all h0 hF hi hf
      · obtain ⟨k, rfl, hk⟩ := is_ex hi
        rw [nDouble_yes hk hf]
        exact do_double w0 w b c x o n X j m all h0 hF k hk hf
    · rw [nDouble_no hi]
      exact do_double_no w0 w b c x o n X i j m all h0 hF hi
  rw [if_neg h5]
  by_cases h6 : kd = 6
  · rw [if_pos h6]
    subst h6
    by_cases hi : Is X i
    · by_cases hj : Is X j
      · obtain ⟨k, rfl, hk⟩ := is_ex hi
        obtain ⟨k2, rfl, hk2⟩ := is_ex hj
        rw [nMove_yes hk hk2]
        exact do_move w0 w b c x o n X m all h0 hF k k2 hk hk2
      · rw [nMove_no (fun h => hj h.2)]
        exact do_move_no2 w0 w b c x o n X i j m all h0 hF hi hj
    · rw [nMove_no (fun h => hi h.1)]
      exact do_move_no1 w0 w b c x o n X i j m all h0 hF hi
  rw [if_neg h6]
  by_cases h7 : kd = 7
  · rw [if_pos h7]
    subst h7
    refine do_mark7 w0 w b c x o n X i j m all h0 hF _ (fun w1 h1 => ?_)
    by_cases h2 : Two X i j
    · cases all
      · rw [nCut_yes h2]
        exact mark_cut w0 w1 b c x o n X i j m h1 hF hn h2
      · rw [nCut_all h2]
        exact mark_cut_all w0 w1 b c x o n X i j m h1 hF hn h2
    · rw [nCut_no h2]
      exact mark_cut_no w0 w1 b c x o n X i j m all h1 hF hn h2
  rw [if_neg h7]
  by_cases h8 : kd = 8
  · rw [if_pos h8]
    subst h8
    refine do_mark8 w0 w b c x o n X i j m all h0 hF _ (fun w1 h1 => ?_)
    by_cases h2 : Two X i j
    · rw [nJoin_yes h2]
      exact mark_join w0 w1 b c x o n X i j m all h1 hF hn h2
    · rw [nJoin_no h2]
      exact mark_join_no w0 w1 b c x o n X i j m all h1 hF hn h2
  rw [if_neg h8]
  by_cases h3 : kd = 3
  · rw [if_pos h3]
    subst h3
    by_cases hi : Is X i
    · obtain ⟨k, rfl, hk⟩ := is_ex hi
      have ht := hG.two _ (List.getElem_mem hk)
      cases hc : isCut X X.l[k].f0 X.l[k].f1
      · rw [nDeliver_ok hk ht hc]
        exact do_del_ok w0 w b c x o n X j m all h0 hF k hk ht hc
      · rw [nDeliver_cut hk hc]
        exact do_del_cut w0 w b c x o n X j m all h0 hF k hk ht hc
    · rw [nDeliver_no hi]
      exact do_del_no w0 w b c x o n X i j m all h0 hF hi
  · rw [if_neg h3]
    have ho : Other kd := ⟨fun e => hk (.inl e), fun e => hk (.inr (.inl e)), fun e => hk (.inr (.inr e)), h3, h4, h5, h6, h7, h8⟩
    by_cases hi : Is X 0
    · have hk0 : 0 < X.l.length := by unfold Is at hi; omega
      have ht := hG.two _ (List.getElem_mem hk0)
      cases hc : isCut X X.l[0].f0 X.l[0].f1
      · have e : nDeliver X 0 = _ := nDeliver_ok (k := 0) hk0 ht hc
        rw [e]
        exact do_del_ok0 w0 w b c x o n X kd i j m all h0 hF ho hk0 ht hc
      · have e : nDeliver X 0 = _ := nDeliver_cut (k := 0) hk0 hc
        rw [e]
        exact do_del_cut0 w0 w b c x o n X kd i j m all h0 hF ho hk0 ht hc
    · rw [nDeliver_no hi]
      exact do_del_no0 w0 w b c x o n X kd i j m all h0 hF ho hi

end Go.Proofs.Ytclmhodgfhkgcaa.Q

-- By px.py, a program of this session that drives the kit's printer: laid out of the translation; Lean checks it.
namespace Go.Proofs.Ytclmhodgfhkgcaa.Q
open Go.RowKit Go.Proofs.YtclmhodgfhkgcaaW.PrintWords Go.Proofs.YtclmhodgfhkgcaaW.PrintLast Go.Proofs.YtclmhodgfhkgcaaW.PrintMore
attribute [local go_sem] max2_int min2_int max_two min_two max_three min_three max_four min_four   -- for this text's walks alone
set_option linter.unusedVariables false
set_option linter.unusedSimpArgs false

attribute [local go_sem high] eqA30
/-! ### surmiseref22_Same: function 21 -/
def surmiseref22_Same.l0 : Nat → List (S30) → List (S30) → Int → Option (Bool)
  | 0, _, _, _ => none
  | k + 1, x0, x1, x5 => if x5 < (x0.length : Int) then (if 0 ≤ x5 then (if x5 < (x1.length : Int) then (if (!(((rd_T30 x0 x5).f0) == ((rd_T30 x1 x5).f0)) || (!(((rd_T30 x0 x5).f1) == ((rd_T30 x1 x5).f1)) || (!((((rd_T30 x0 x5).f2).toList) == (((rd_T30 x1 x5).f2).toList))))) = true then (some false) else (surmiseref22_Same.l0 k x0 x1 (wrap64 (x5 + 1)))) else (none)) else (none)) else (some true)
def surmiseref22_Same.f (k : Nat) (l0 : List (S30)) (l1 : List (S30)) : Option (Bool) := if (l0.length : Int) = (l1.length : Int) then (surmiseref22_Same.l0 k l0 l1 0) else (some false)
theorem surmiseref22_Same.mono_l : ∀ k, (∀ y0 y1 y2, LeO (surmiseref22_Same.l0 k y0 y1 y2) (surmiseref22_Same.l0 (k + 1) y0 y1 y2))
  | 0 => fun _ _ _ r h => by simp [surmiseref22_Same.l0] at h
  | k + 1 => by
    have ih0 := surmiseref22_Same.mono_l k
    · intro y0 y1 y2
      unfold surmiseref22_Same.l0
      repeat' first
      | (with_reducible exact ih0 _ _ _)
      | (with_reducible exact LeO.refl _)
      | (with_reducible exact LeO.none _)
      | (with_reducible refine LeO.ite ?_ ?_)
      | (with_reducible refine LeO.bind ?_ (fun _ => ?_))
      | exact ih0 _ _ _
      | exact LeO.none _
      | refine LeO.ite ?_ ?_
      | refine LeO.bind ?_ (fun _ => ?_)
theorem surmiseref22_Same.mono : ∀ a0 a1 k, LeO (surmiseref22_Same.f k a0 a1) (surmiseref22_Same.f (k + 1) a0 a1) := by
  intro a0 a1 k
  have ih0 := surmiseref22_Same.mono_l k
  unfold surmiseref22_Same.f
  repeat' first
      | (with_reducible exact ih0 _ _ _)
      | (with_reducible exact LeO.refl _)
      | (with_reducible exact LeO.none _)
      | (with_reducible refine LeO.ite ?_ ?_)
      | (with_reducible refine LeO.bind ?_ (fun _ => ?_))
      | exact ih0 _ _ _
      | exact LeO.none _
      | refine LeO.ite ?_ ?_
      | refine LeO.bind ?_ (fun _ => ?_)
set_option maxHeartbeats 8000000 in
set_option maxRecDepth 100000 in
theorem surmiseref22_Same.calls (k : Nat) (A0 : Option Addr) (c0 : Nat) (l0 : List (S30)) (A1 : Option Addr) (c1 : Nat) (l1 : List (S30)) (r : Bool) (w : World) (hr0 : Kd.C k30 w A0 l0.length l0) (hc0 : l0.length ≤ c0) (hr1 : Kd.C k30 w A1 l1.length l1) (hc1 : l1.length ≤ c1) (h : surmiseref22_Same.f k l0 l1 = some r) :
    Calls Try.prog 21 #[.slice A0 l0.length c0, .slice A1 l1.length c1] w fun e w' => e = .returned (.bool r) ∧ Drawn0 w w' := by
  have hu30 := Try.underlying30
  have HR0 := Aside0.mk hr0
  have HC0 := Aside0.mk hc0
  clear hr0 hc0
  have HR1 := Aside0.mk hr1
  have HC1 := Aside0.mk hc1
  clear hr1 hc1
  have H : (if (l0.length : Int) = (l1.length : Int) then (surmiseref22_Same.l0 k l0 l1 0) else (some false)) = some r := h
  clear h
  by_cases c3 : (l0.length : Int) = (l1.length : Int)
  · rw [if_pos c3] at H
    have c3b0 : ((l0.length : Int) == (l1.length : Int)) = true := beq_iff_eq.mpr c3
    have c3b1 : ((l0.length : Int) != (l1.length : Int)) = false := bne_eq_false_iff_eq.mpr c3
    have c3b2 : (l0.length == l1.length) = true := by first | simpa using c3 | (simp at c3 ⊢; omega)
    clear c3
    have H' := Aside0.mk H
    clear H
    go_enter Try.func21, Try.ntmps21
    go_wp2
    repeat (go_quiet (fail); try go_wp2)
    go_loopg [5] k (fun kq v5 w' => ∃ (x5_1 : Int), v5 = .int .i64 x5_1 ∧ Aside0 (surmiseref22_Same.l0 kq l0 l1 x5_1 = some r) ∧ Aside0 (kq ≤ k) ∧ Drawn0 w w')
    case atStart => exact ⟨(0), (by first | rfl | (simp; done) | (simp [*]; done)), H', ⟨Nat.le_refl _⟩, by repeat (first | exact Drawn0.refl _ | apply Drawn0.step)⟩
    case round =>
      clear H'
      try clear c1
      try clear c2
      try clear p2
      try clear c3
      try clear c3b0
      try clear c3b1
      try clear c3b2
      obtain ⟨x5_1, rfl, HA, HK1, ⟨m1, rfl⟩⟩ := hrel
      cases gk with
      | zero => exact absurd HA.out (by simp [surmiseref22_Same.l0])
      | succ k1 =>
        have H := HA.out
        clear HA
        simp only [surmiseref22_Same.l0] at H
        by_cases c4 : x5_1 < (l0.length : Int)
        · rw [if_pos c4] at H
          have c4b0 : decide (x5_1 < (l0.length : Int)) = true := decide_eq_true c4
          clear c4
          by_cases c5 : 0 ≤ x5_1
          · rw [if_pos c5] at H
            have c5b0 : decide (0 ≤ x5_1) = true := decide_eq_true c5
            clear c5
            by_cases c6 : x5_1 < (l1.length : Int)
            · rw [if_pos c6] at H
              have c6b0 : decide (x5_1 < (l1.length : Int)) = true := decide_eq_true c6
              clear c6
              by_cases c7 : (!(((rd_T30 l0 x5_1).f0) == ((rd_T30 l1 x5_1).f0)) || (!(((rd_T30 l0 x5_1).f1) == ((rd_T30 l1 x5_1).f1)) || (!((((rd_T30 l0 x5_1).f2).toList) == (((rd_T30 l1 x5_1).f2).toList))))) = true
              · rw [if_pos c7] at H
                have c7b0 : (!(((rd_T30 l0 x5_1).f0) == ((rd_T30 l1 x5_1).f0)) || (!(((rd_T30 l0 x5_1).f1) == ((rd_T30 l1 x5_1).f1)) || (!((((rd_T30 l0 x5_1).f2).toList) == (((rd_T30 l1 x5_1).f2).toList))))) = true := c7
                clear c7
                obtain rfl := Option.some.inj H
                have p137 : 0 ≤ (x5_1 : Int) := of_decide_eq_true (by first | (with_reducible assumption) | assumption)
                have q137 : x5_1 < (l0.length : Int) := of_decide_eq_true (by first | (with_reducible assumption) | assumption)
                obtain ⟨ad137, e137, hx137_0, hx137_1, hx137_2⟩ := at_T30 HR0.out x5_1 p137 q137
                cases e137
                replace p137 := eq_true p137
                replace q137 := eq_true q137
                have p138 : 0 ≤ (x5_1 : Int) := of_decide_eq_true (by first | (with_reducible assumption) | assumption)
                have q138 : x5_1 < (l1.length : Int) := of_decide_eq_true (by first | (with_reducible assumption) | assumption)
                obtain ⟨ad138, e138, hx138_0, hx138_1, hx138_2⟩ := at_T30 HR1.out x5_1 p138 q138
                cases e138
                replace p138 := eq_true p138
                replace q138 := eq_true q138
                go_wp2
                repeat (go_quiet (fail); try go_wp2)
                go_ret
                exact ⟨by first | rfl | (simp; done) | (simp [*]; done), by repeat (first | exact Drawn0.refl _ | apply Drawn0.step)⟩
              · rw [if_neg c7] at H
                have c7b0 : (!(((rd_T30 l0 x5_1).f0) == ((rd_T30 l1 x5_1).f0)) || (!(((rd_T30 l0 x5_1).f1) == ((rd_T30 l1 x5_1).f1)) || (!((((rd_T30 l0 x5_1).f2).toList) == (((rd_T30 l1 x5_1).f2).toList))))) = false := by simpa using c7
                clear c7
                have H' := Aside0.mk H
                clear H
                have p137 : 0 ≤ (x5_1 : Int) := of_decide_eq_true (by first | (with_reducible assumption) | assumption)
                have q137 : x5_1 < (l0.length : Int) := of_decide_eq_true (by first | (with_reducible assumption) | assumption)
                obtain ⟨ad137, e137, hx137_0, hx137_1, hx137_2⟩ := at_T30 HR0.out x5_1 p137 q137
                cases e137
                replace p137 := eq_true p137
                replace q137 := eq_true q137
                have p138 : 0 ≤ (x5_1 : Int) := of_decide_eq_true (by first | (with_reducible assumption) | assumption)
                have q138 : x5_1 < (l1.length : Int) := of_decide_eq_true (by first | (with_reducible assumption) | assumption)
                obtain ⟨ad138, e138, hx138_0, hx138_1, hx138_2⟩ := at_T30 HR1.out x5_1 p138 q138
                cases e138
                replace p138 := eq_true p138
                replace q138 := eq_true q138
                go_wp2
                repeat (go_quiet (fail); try go_wp2)
                go_roundg k1
                case measure => have := HK1.out; omega
                case rel => exact ⟨(wrap64 (x5_1 + 1)), (by first | rfl | (simp; done) | (simp [*]; done)), H', ⟨by have := HK1.out; omega⟩, by repeat (first | exact Drawn0.refl _ | apply Drawn0.step)⟩
            · rw [if_neg c6] at H
              exact absurd H (by simp)
          · rw [if_neg c5] at H
            exact absurd H (by simp)
        · rw [if_neg c4] at H
          have c4b0 : decide (x5_1 < (l0.length : Int)) = false := decide_eq_false c4
          clear c4
          obtain rfl := Option.some.inj H
          go_wp2
          repeat (go_quiet (fail); try go_wp2)
          go_ret
          exact ⟨by first | rfl | (simp; done) | (simp [*]; done), by repeat (first | exact Drawn0.refl _ | apply Drawn0.step)⟩
  · rw [if_neg c3] at H
    have c3b0 : ((l0.length : Int) == (l1.length : Int)) = false := beq_eq_false_iff_ne.mpr c3
    have c3b1 : ((l0.length : Int) != (l1.length : Int)) = true := bne_iff_ne.mpr c3
    have c3b2 : (l0.length == l1.length) = false := by first | simpa using c3 | (simp at c3 ⊢; omega)
    obtain rfl := Option.some.inj H
    go_enter Try.func21, Try.ntmps21
    go_wp2
    repeat (go_quiet (fail); try go_wp2)
    go_ret
    exact ⟨by first | rfl | (simp; done) | (simp [*]; done), by repeat (first | exact Drawn0.refl _ | apply Drawn0.step)⟩

end Go.Proofs.Ytclmhodgfhkgcaa.Q

/- What the laws over lists of calls share: calls as they are read, runs, and the reference's Same. -/
namespace Go.Proofs.Ytclmhodgfhkgcaa.Q
open Go.RowKit Go.Proofs.YtclmhodgfhkgcaaW.PrintWords Go.Proofs.YtclmhodgfhkgcaaW.PrintLast Go.Proofs.YtclmhodgfhkgcaaW.PrintMore
set_option linter.unusedVariables false
set_option linter.unusedSimpArgs false

structure S41 where
  f0 : Int
  f1 : Int
  f2 : Int
  f3 : S30
  f4 : Bool
abbrev Ac := S41
def z41 : Ac := ⟨0, 0, 0, z30, false⟩
def k41 : Kd Ac := Kd.iso (Kd.pair (Kd.int .i64) (Kd.pair (Kd.int .i64) (Kd.pair (Kd.int .i64) (Kd.pair k30 Kd.bool)))) (fun x : Ac => (x.f0, x.f1, x.f2, x.f3, x.f4))
abbrev kA : Kd Ac := k41
abbrev AcV (a : Ac) : Value := .agg #[.int .i64 a.f0, .int .i64 a.f1, .int .i64 a.f2, .int .i64 a.f3.f0, .int .i64 a.f3.f1, .string a.f3.f2, .bool a.f4]
theorem kA_open {w : World} {x : Ac} {cs : List Value} (h : kA.K w x cs) : cs = [.int .i64 x.f0, .int .i64 x.f1, .int .i64 x.f2, .int .i64 x.f3.f0, .int .i64 x.f3.f1, .string x.f3.f2, .bool x.f4] := by
  obtain ⟨_, _, rfl, rfl, _, _, rfl, rfl, _, _, rfl, rfl, c3, c4, rfl, h3, rfl⟩ := h
  rw [k30_open h3]
  rfl
theorem act_cells {w : World} {A : Option Addr} {l : List Ac} (h : Kd.C kA w A l.length l) (i : Nat) (hi : i < l.length) :
    ∃ ad, A = some ad ∧ w.cell? (ad.add (i * 7)) = some (.int .i64 l[i].f0) ∧ w.cell? ⟨(ad.add (i * 7)).block, (ad.add (i * 7)).off + 1, none⟩ = some (.int .i64 l[i].f1) ∧ w.cell? ⟨(ad.add (i * 7)).block, (ad.add (i * 7)).off + 2, none⟩ = some (.int .i64 l[i].f2) ∧ w.cell? ⟨(ad.add (i * 7)).block, (ad.add (i * 7)).off + 3, none⟩ = some (.int .i64 l[i].f3.f0) ∧ w.cell? ⟨(ad.add (i * 7)).block, (ad.add (i * 7)).off + 4, none⟩ = some (.int .i64 l[i].f3.f1) ∧ w.cell? ⟨(ad.add (i * 7)).block, (ad.add (i * 7)).off + 5, none⟩ = some (.string l[i].f3.f2) ∧ w.cell? ⟨(ad.add (i * 7)).block, (ad.add (i * 7)).off + 6, none⟩ = some (.bool l[i].f4) := by
  obtain ⟨ad, c, e, _, hK, hc0⟩ := Kd.C_get h z41 (i : Int) (by omega) (by omega)
  have hc : ∀ j u, c[j]? = some u → w.cell? (ad.add (i * 7 + j)) = some u := by
    intro j u hu
    have := hc0 j u hu
    rw [Int.toNat_natCast] at this
    exact this
  obtain rfl := kA_open hK
  have e2 : l.getD ((i : Int)).toNat z41 = l[i] := by simp [hi]
  rw [e2] at hc
  exact ⟨ad, e, hc 0 _ rfl, by rw [← add_field _ _ 1 (by omega)]; exact hc 1 _ rfl, by rw [← add_field _ _ 2 (by omega)]; exact hc 2 _ rfl, by rw [← add_field _ _ 3 (by omega)]; exact hc 3 _ rfl, by rw [← add_field _ _ 4 (by omega)]; exact hc 4 _ rfl, by rw [← add_field _ _ 5 (by omega)]; exact hc 5 _ rfl, by rw [← add_field _ _ 6 (by omega)]; exact hc 6 _ rfl⟩
theorem act_S {w : World} {ad : Addr} {l : List Ac} (h : Kd.C kA w (some ad) l.length l) (i : Nat) (hi : i < l.length) :
    w.cell? (ad.add (i * 7)) = some (.int .i64 l[i].f0) ∧ w.cell? ⟨(ad.add (i * 7)).block, (ad.add (i * 7)).off + 1, none⟩ = some (.int .i64 l[i].f1) ∧ w.cell? ⟨(ad.add (i * 7)).block, (ad.add (i * 7)).off + 2, none⟩ = some (.int .i64 l[i].f2) ∧ w.cell? ⟨(ad.add (i * 7)).block, (ad.add (i * 7)).off + 3, none⟩ = some (.int .i64 l[i].f3.f0) ∧ w.cell? ⟨(ad.add (i * 7)).block, (ad.add (i * 7)).off + 4, none⟩ = some (.int .i64 l[i].f3.f1) ∧ w.cell? ⟨(ad.add (i * 7)).block, (ad.add (i * 7)).off + 5, none⟩ = some (.string l[i].f3.f2) ∧ w.cell? ⟨(ad.add (i * 7)).block, (ad.add (i * 7)).off + 6, none⟩ = some (.bool l[i].f4) := by
  obtain ⟨ad', e, h1⟩ := act_cells h i hi
  cases e
  exact h1
/-- What becomes of a net by calls. -/
def aStep (X : Nt) (a : Ac) : Nt := nStep X a.f0 a.f1 a.f2 a.f3 a.f4
def aRun (nodes : Int) (l : List Ac) : Nt := l.foldl aStep (X0 nodes)
theorem aRun_snoc {nodes : Int} {l : List Ac} {i : Nat} (hi : i < l.length) : aRun nodes (l.take (i + 1)) = aStep (aRun nodes (l.take i)) l[i] := by
  unfold aRun
  rw [List.take_succ_eq_append_getElem hi, List.foldl_append]
  rfl
theorem good_start {nodes : Int} (h1 : 1 ≤ nodes) (h2 : nodes ≤ 16) : Good 0 (X0 nodes) := ⟨⟨h1, h2⟩, by simp [X0], by simp [X0], by simp [X0], by simp [X0]⟩
theorem good_run {nodes : Int} (h1 : 1 ≤ nodes) (h2 : nodes ≤ 16) (l : List Ac) : ∀ i, i ≤ l.length → Good i (aRun nodes (l.take i)) := by
  intro i
  induction i with
  | zero => intro _; exact good_start h1 h2
  | succ i ih =>
    intro hi
    rw [aRun_snoc (by omega)]
    exact (ih (by omega)).step _ _ _ _ _
theorem nodes_step (X : Nt) (kd i j : Int) (m : Msg) (all : Bool) : (nStep X kd i j m all).nodes = X.nodes := by
  unfold nStep nSend nDrop nDouble nMove nCut nJoin nDeliver
  repeat' (first | rfl | split)
theorem nodes_run {nodes : Int} (l : List Ac) : (aRun nodes l).nodes = nodes := by
  unfold aRun
  have h : ∀ (l : List Ac) (X : Nt), (l.foldl aStep X).nodes = X.nodes := by
    intro l
    induction l with
    | nil => intro X; rfl
    | cons a l ih =>
      intro X
      rw [List.foldl_cons, ih]
      exact nodes_step _ _ _ _ _ _
  exact h l _
theorem same_loop {l : List Msg} : ∀ (k i : Nat), i ≤ l.length → l.length - i < k → l.length < 9223372036854775807 → surmiseref22_Same.l0 k l l (i : Int) = some true
  | 0, i, _, h, _ => by omega
  | k + 1, i, hi, h, hb => by
    unfold surmiseref22_Same.l0
    by_cases hlt : i < l.length
    · rw [if_pos (by omega), if_pos (by omega), if_pos (by omega), if_neg (by simp)]
      rw [show wrap64 ((i : Int) + 1) = ((i + 1 : Nat) : Int) by rw [IntWalk.wrap64_in _ (by omega)]; rfl]
      exact same_loop k (i + 1) (by omega) (by omega) hb
    · rw [if_neg (by omega)]
/-- The same messages are the same. -/
theorem same_calls (v u : Value) (l : List Msg) (ok ok' : Nat → Prop) (w : World) (hl : l.length ≤ 256) (hv : RowM w ok v l) (hu : RowM w ok' u l) : Calls Try.prog 21 #[v, u] w fun e w' => e = .returned (.bool true) ∧ Below w.heap.size w w' := by
  obtain ⟨A, c, rfl⟩ := Kd.V_slice hv
  obtain ⟨A2, c2, rfl⟩ := Kd.V_slice hu
  refine (surmiseref22_Same.calls 1000 A c l A2 c2 l true w hv.fC (Kd.V_at hv).2.1 hu.fC (Kd.V_at hu).2.1 ?_).mono ?_
  · unfold surmiseref22_Same.f
    rw [if_pos rfl]
    exact same_loop 1000 0 (by omega) (by omega) (by omega)
  · rintro e w' ⟨he, hd⟩
    exact ⟨he, hd.below⟩

end Go.Proofs.Ytclmhodgfhkgcaa.Q

/- The law NetDoes. (Printed by gen_does.py.) -/
namespace Go.Proofs.Ytclmhodgfhkgcaa.Q
open Go.RowKit Go.Proofs.YtclmhodgfhkgcaaW.PrintWords Go.Proofs.YtclmhodgfhkgcaaW.PrintLast Go.Proofs.YtclmhodgfhkgcaaW.PrintMore
set_option linter.unusedVariables false
set_option linter.unusedSimpArgs false

theorem Duo.start {w w1 w2 : World} {X : Nt} (hn : ∀ ok, NetAt ok w1 (w.heap.size + 1) w.heap.size 0 X) (hb : Below w.heap.size w w1) (hr : ∀ ok, RefAt ok w2 (w1.heap.size + 1) w1.heap.size X) (hb2 : Below w1.heap.size w1 w2) : Duo w w2 (w.heap.size + 1) w.heap.size (w1.heap.size + 1) w1.heap.size 0 X X := by
  have hl := (hn (fun _ => True)).lt
  have hr0 := hr (okD (w.heap.size + 1) w.heap.size (w1.heap.size + 1) w1.heap.size)
  have h2 := (hn (okD (w.heap.size + 1) w.heap.size (w1.heap.size + 1) w1.heap.size)).ofBelow (Chg.of_below hb2 _)
  exact ⟨⟨0, Nat.le_refl _, h2⟩, hr0, ⟨by omega, by omega, by omega, by omega⟩, below_step hb hb2, ⟨by omega, by omega, by omega, by omega⟩⟩
set_option maxHeartbeats 8000000 in
set_option maxRecDepth 100000 in
theorem netDoes_hand (nodes : Int) (A : Option Addr) (cp : Nat) (l : List Ac) (w : World) (h0 : (Lit.int .i64 nodes).wf = true) (hG : (l.length * 64 ≤ 140737488351232 ∧ l.length ≤ 9223372036854775807 ∧ ∀ y2 ∈ l, ((Lit.int .i64 y2.f0).wf = true ∧ (Lit.int .i64 y2.f1).wf = true ∧ (Lit.int .i64 y2.f2).wf = true ∧ ((Lit.int .i64 y2.f3.f0).wf = true ∧ (Lit.int .i64 y2.f3.f1).wf = true ∧ y2.f3.f2.size ≤ 140737488351232) ∧ True))) (hC : Kd.C kA w A l.length l) (hle : l.length ≤ cp) :
    Calls Try.prog 4 #[.int .i64 nodes, .slice A l.length cp] w fun e w' => e = .returned (.bool true) ∧ Below w.heap.size w w' := by
  have HC := Aside0.mk hC
  have hm := hG.2.1
  clear hG h0 hC hle
  by_cases hbad : nodes < 1 ∨ 16 < nodes
  · have HBD := Aside0.mk (fun w => New_bad nodes hbad w)
    rcases hbad with hb1 | hb1
    case' inr => have hb2 : ¬ nodes < 1 := by omega
    all_goals
      go_enter Try.func4, Try.ntmps4
      go_wp2_with (first
        | (go_at_call 8; refine (HBD.out _).mono ?_; rintro e w1 ⟨rfl, rfl⟩)
        | (go_at_call 9; refine (awake_calls _).mono ?_; rintro e w2 ⟨rfl, hb⟩; have HB := Aside0.mk hb; clear hb))
      go_ret
      exact ⟨rfl, HB.out⟩
  · have n1 : 1 ≤ nodes := by omega
    have n2 : nodes ≤ 16 := by omega
    clear hbad
    have HGR := Aside0.mk (good_run n1 n2 l)
    have HNW := Aside0.mk (fun w => New_ok nodes n1 n2 w)
    have HND := Aside0.mk (nodes_run (nodes := nodes))
    go_enter Try.func4, Try.ntmps4
    go_wp2_with (first
      | (go_at_call 8; refine (HNW.out _).mono ?_; rintro e w1 ⟨rfl, hn, hb⟩; have HN := Aside0.mk hn; have HB := Aside0.mk hb; clear hn hb)
      | (go_at_call 15; refine (rNew_calls nodes _).mono ?_; rintro e w2 ⟨rfl, hr, hb, -⟩; have HU := Aside0.mk (Duo.start HN.out HB.out hr hb); clear hr hb HN HB)
      | (go_at_call 9; refine (awake_calls _).mono ?_; rintro e w3 ⟨rfl, hb⟩; have HU3 := Aside0.mk (HU.out.quiet (Chg.of_below hb _)); clear hb HU))
    generalize w.heap.size + 1 = b at *
    generalize w1.heap.size + 1 = x at *
    generalize w1.heap.size = o at *
    obtain ⟨c, hc⟩ : ∃ c, w.heap.size = c := ⟨_, rfl⟩
    have HU : Aside0 (Duo w w3 b c x o 0 (X0 nodes) (X0 nodes)) := ⟨by rw [← hc]; exact HU3.out⟩
    clear hc HU3
    go_loopg [8] 90 (fun kq vi wr => ∃ i : Nat, vi = .int .i64 i ∧ Aside0 (i + kq = 90) ∧ Aside0 (i ≤ l.length) ∧ Aside0 (Duo w wr b c x o i (aRun nodes (l.take i)) (aRun nodes (l.take i))))
    case atStart => exact ⟨0, rfl, ⟨by omega⟩, ⟨by omega⟩, HU⟩
    case round =>
      clear HU
      obtain ⟨i, rfl, HK, HI, HU⟩ := hrel
      have hi90 : i ≤ 90 := by have := HK.out; omega
      have HGI := Aside0.mk (HGR.out i HI.out)
      by_cases hgo : i < l.length ∧ i < 90
      · obtain ⟨hlt, h90⟩ := hgo
        obtain ⟨ad, rfl, y0, y1, y2, y3, y4, y5, y6⟩ := act_cells (Kd.C_below HC.out HU.out.low) i hlt
        have HR := Aside0.mk (aRun_snoc (nodes := nodes) hlt)
        have hi0 : (0 : Int) ≤ (i : Int) := by omega
        have hi1 : (i : Int) < (l.length : Int) := by omega
        obtain ⟨X, hX⟩ : ∃ X, aRun nodes (l.take i) = X := ⟨_, rfl⟩
        rw [hX] at HU HR HGI
        have HD := Aside0.mk (fun w0 (h : Duo w w0 b c x o i X X) => do_calls w w0 b c x o i i X l[i].f0 l[i].f1 l[i].f2 l[i].f3 l[i].f4 h HGI.out (by omega) (by omega))
        obtain ⟨a, ha⟩ : ∃ a, l[i] = a := ⟨_, rfl⟩
        have HAA := Aside0.mk ha
        rw [ha] at HD y0 y1 y2 y3 y4 y5 y6 HR
        clear hX ha
        go_wp2
        refine wp_tree (.op 0 0 53 (.op 1 0 54 (.op 2 0 55 (.op 3 0 56 (.op 4 0 57 (.op 5 0 58 (.op 6 2 59 (.op 7 1 60 (.op 8 1 61 (.op 9 1 62 (.op 11 1 64 (.op 12 1 65 (.op 13 1 66 (.two 10 63 14 67 (.op 14 2 67 (.op 15 1 68 (.op 16 1 69 .nil))) (.op 10 2 63 (.op 15 1 68 (.op 16 1 69 .nil))))))))))))))))) [] (fun W => W.cell? (ad.add (i * 7)) = some (.int .i64 a.f0) ∧ W.cell? ⟨(ad.add (i * 7)).block, (ad.add (i * 7)).off + 1, none⟩ = some (.int .i64 a.f1) ∧ W.cell? ⟨(ad.add (i * 7)).block, (ad.add (i * 7)).off + 2, none⟩ = some (.int .i64 a.f2) ∧ W.cell? ⟨(ad.add (i * 7)).block, (ad.add (i * 7)).off + 3, none⟩ = some (.int .i64 a.f3.f0) ∧ W.cell? ⟨(ad.add (i * 7)).block, (ad.add (i * 7)).off + 4, none⟩ = some (.int .i64 a.f3.f1) ∧ W.cell? ⟨(ad.add (i * 7)).block, (ad.add (i * 7)).off + 5, none⟩ = some (.string a.f3.f2) ∧ W.cell? ⟨(ad.add (i * 7)).block, (ad.add (i * 7)).off + 6, none⟩ = some (.bool a.f4)) (by kernel_rfl) rfl (by kernel_rfl) (fun _ t _ _ _ h => by cases t <;> exact h) ⟨y0, y1, y2, y3, y4, y5, y6⟩ (fun hS => ?_)
        clear y0 y1 y2 y3 y4 y5 y6
        have n0 := Aside0.mk (HU.out.quiet ((Chg.refl _ _).drewN 1))
        clear HU
        have HU := n0
        clear n0
        repeat (refine RT.take (v := ?_) (a' := ?_) rfl rfl (by assumption) (Or.inl ⟨by rfl, ?_⟩) ?_ ?_; rotate_left; (focus (rintro w' ⟨hS0, hS1, hS2, hS3, hS4, hS5, hS6⟩; go_simp; with_reducible rfl)); rotate_left; (focus (simp only [Act.put, List.setIfInBounds_toArray, List.set_cons_zero, List.set_cons_succ, i64_w, i32_w]; rfl)))
        refine RT.one rfl rfl (fun K hK => ?_)
        refine goes_ Try.func16 (by kernel_rfl) rfl #[.pointer (some ⟨b, 0, none⟩), .pointer (some ⟨x, 0, none⟩), AcV a] (by rfl) rfl rfl (by (try simp only [List.map_toArray, List.map_cons, List.map_nil]); first | done | rfl) ?_
        (with_reducible refine (HD.out _ HU.out).mono ?_)
        rintro e w6 ⟨rfl, hd, -⟩
        refine ⟨_, rfl, ?_⟩
        clear HU
        have HU := Aside0.mk hd
        clear hd
        change Aside0 (Duo w w6 b c x o (i + 1) (aStep X a) (aStep X a)) at HU
        generalize aStep X a = X2 at *
        have t3 := HU.out.ref.open.2.2.2.1
        refine hK.out _ _ (by rw [← HAA.out]; exact (act_S (Kd.C_below HC.out HU.out.low) i hlt)) (fun hS => ?_)
        clear hK K
        refine RT.norm (a' := ?_) ?_ ?_
        rotate_left
        · show Act.put _ (some 59) _ = _
          simp only [Act.put, List.setIfInBounds_toArray, List.set_cons_zero, List.set_cons_succ, i64_w, i32_w]
          rfl
        repeat (refine RT.pure (v := ?_) (a' := ?_) rfl rfl (Or.inl ⟨by rfl, ?_⟩) ?_ ?_; rotate_left; (focus (intro w'; go_simp; with_reducible rfl)); rotate_left; (focus (simp only [Act.put, List.setIfInBounds_toArray, List.set_cons_zero, List.set_cons_succ, i64_w, i32_w]; rfl)))
        refine RT.fork rfl rfl rfl rfl (fun K hK => ?_) (fun K hK => ?_)
        · refine goes_ Try.func17 (by kernel_rfl) rfl #[.pointer (some ⟨b, 0, none⟩)] (by rfl) rfl rfl (by (try simp only [List.map_toArray, List.map_cons, List.map_nil]); first | done | rfl) ?_
          (with_reducible refine (HU.out.lost).mono ?_)
          rintro e w7 ⟨rfl, rfl⟩
          refine ⟨_, rfl, ?_⟩
          refine hK.out _ _ (by rw [← HAA.out]; exact (act_S (Kd.C_below HC.out HU.out.low) i hlt)) (fun hS => ?_)
          clear hK K
          refine RT.norm (a' := ?_) ?_ ?_
          rotate_left
          · show Act.put _ (some 63) _ = _
            simp only [Act.put, List.setIfInBounds_toArray, List.set_cons_zero, List.set_cons_succ, i64_w, i32_w]
            rfl
          refine RT.one rfl rfl (fun K hK => ?_)
          go_simp
          refine hK.out _ _ (by rw [← HAA.out]; exact (act_S (Kd.C_below HC.out HU.out.low) i hlt)) (fun hS => ?_)
          clear hK K
          repeat (refine RT.pure (v := ?_) (a' := ?_) rfl rfl (Or.inl ⟨by rfl, ?_⟩) ?_ ?_; rotate_left; (focus (intro w'; go_simp; with_reducible rfl)); rotate_left; (focus (simp only [Act.put, List.setIfInBounds_toArray, List.set_cons_zero, List.set_cons_succ, i64_w, i32_w]; rfl)))
          refine RT.nil ?_
          go_wp2
          go_roundg (90 - (i + 1))
          case measure => have := HK.out; omega
          case rel => exact ⟨i + 1, by go_num, ⟨by omega⟩, ⟨by omega⟩, ⟨by rw [HR.out]; exact HU.out⟩⟩
        · go_simp
          refine hK.out _ _ (by rw [← HAA.out]; exact (act_S (Kd.C_below HC.out HU.out.low) i hlt)) (fun hS => ?_)
          clear hK K
          refine RT.one rfl rfl (fun K hK => ?_)
          refine goes_ Try.func17 (by kernel_rfl) rfl #[.pointer (some ⟨b, 0, none⟩)] (by rfl) rfl rfl (by (try simp only [List.map_toArray, List.map_cons, List.map_nil]); first | done | rfl) ?_
          (with_reducible refine (HU.out.lost).mono ?_)
          rintro e w7 ⟨rfl, rfl⟩
          refine ⟨_, rfl, ?_⟩
          refine hK.out _ _ (by rw [← HAA.out]; exact (act_S (Kd.C_below HC.out HU.out.low) i hlt)) (fun hS => ?_)
          clear hK K
          refine RT.norm (a' := ?_) ?_ ?_
          rotate_left
          · show Act.put _ (some 63) _ = _
            simp only [Act.put, List.setIfInBounds_toArray, List.set_cons_zero, List.set_cons_succ, i64_w, i32_w]
            rfl
          repeat (refine RT.pure (v := ?_) (a' := ?_) rfl rfl (Or.inl ⟨by rfl, ?_⟩) ?_ ?_; rotate_left; (focus (intro w'; go_simp; with_reducible rfl)); rotate_left; (focus (simp only [Act.put, List.setIfInBounds_toArray, List.set_cons_zero, List.set_cons_succ, i64_w, i32_w]; rfl)))
          refine RT.nil ?_
          go_wp2
          go_roundg (90 - (i + 1))
          case measure => have := HK.out; omega
          case rel => exact ⟨i + 1, by go_num, ⟨by omega⟩, ⟨by omega⟩, ⟨by rw [HR.out]; exact HU.out⟩⟩
      · have hends : i < l.length ∧ ¬ i < 90 ∨ ¬ i < l.length := by omega
        clear hgo
        have hnd := HND.out (l.take i)
        obtain ⟨X, hX⟩ : ∃ X, aRun nodes (l.take i) = X := ⟨_, rfl⟩
        rw [hX] at HU HGI hnd
        have HXN := Aside0.mk hnd
        have HFI := Aside0.mk (HGI.out.fine (by omega))
        clear hX hnd
        rcases hends with ⟨e1, e2⟩ | e1
        all_goals
          go_wp2
          go_loopg [9] (nodes + 2).toNat (fun kq va wr => ∃ p : Int, va = .int .i64 p ∧ Aside0 (p + (kq : Int) = nodes + 1 ∧ -1 ≤ p) ∧ Aside0 (Duo w wr b c x o i X X))
          case atStart => exact ⟨-1, rfl, ⟨by omega⟩, HU⟩
          case round =>
            clear HU
            obtain ⟨p, rfl, HP, HU⟩ := hrel
            have hp1 : p ≤ nodes + 1 := by have := HP.out.1; omega
            have hp0 : -1 ≤ p := HP.out.2
            by_cases hpn : p ≤ nodes
            · go_wp2
              go_loopg [10] (nodes + 2).toNat (fun kr vb wr2 => ∃ q : Int, vb = .int .i64 q ∧ Aside0 (q + (kr : Int) = nodes + 1 ∧ -1 ≤ q) ∧ Aside0 (Duo w wr2 b c x o i X X))
              case atStart => exact ⟨-1, rfl, ⟨by omega⟩, HU⟩
              case round =>
                clear HU
                obtain ⟨q, rfl, HQ, HU⟩ := hrel
                have hq1 : q ≤ nodes + 1 := by have := HQ.out.1; omega
                have hq0 : -1 ≤ q := HQ.out.2
                by_cases hqn : q ≤ nodes
                · have HUP := Aside0.mk (fun w0 (h : Duo w w0 b c x o i X X) => h.up HFI.out.few p q)
                  by_cases h2 : Two X p q
                  · have HN2 : Aside0 (Nd p ∧ Nd q) := ⟨by have := HFI.out.few; unfold Two at h2; unfold Few at this; unfold Nd; omega⟩
                    have HCU := Aside0.mk (fun w0 (h : Duo w w0 b c x o i X X) => h.rcut HN2.out.1 HN2.out.2)
                    have HT := Aside0.mk h2
                    obtain ⟨r, hr⟩ : ∃ r, isCut X p q = r := ⟨_, rfl⟩
                    have hup : upB X p q = !r := by unfold upB; rw [decide_eq_true h2, hr]; rfl
                    rw [hup] at HUP
                    rw [hr] at HCU
                    clear h2 hr hup
                    cases r
                    all_goals
                      go_wp2_with (first
                        | (go_at_call 18; (with_reducible refine (HUP.out _ HU.out).mono ?_); rintro e w4 ⟨rfl, hd, -⟩; have HU4 := Aside0.mk hd; clear hd)
                        | (go_at_call 19; (with_reducible refine (HU4.out.rtwo_yes HT.out).mono ?_); rintro e w5 ⟨rfl, rfl⟩)
                        | (go_at_call 20; (with_reducible refine (HCU.out _ HU4.out).mono ?_); rintro e w5 ⟨rfl, rfl⟩))
                      go_roundg (nodes - q).toNat
                      case measure => have := HQ.out.1; omega
                      case rel => exact ⟨q + 1, by go_num, ⟨by omega⟩, HU4⟩
                  · have HT := Aside0.mk h2
                    have hup : upB X p q = false := by unfold upB; rw [decide_eq_false h2]; rfl
                    rw [hup] at HUP
                    clear h2 hup
                    go_wp2_with (first
                        | (go_at_call 18; (with_reducible refine (HUP.out _ HU.out).mono ?_); rintro e w4 ⟨rfl, hd, -⟩; have HU4 := Aside0.mk hd; clear hd)
                        | (go_at_call 19; (with_reducible refine (HU4.out.rtwo_no HT.out).mono ?_); rintro e w5 ⟨rfl, rfl⟩))
                    go_roundg (nodes - q).toNat
                    case measure => have := HQ.out.1; omega
                    case rel => exact ⟨q + 1, by go_num, ⟨by omega⟩, HU4⟩
                · go_wp2
                  go_roundg (nodes - p).toNat
                  case measure => have := HP.out.1; omega
                  case rel => exact ⟨p + 1, by go_num, ⟨by omega⟩, HU⟩
            · obtain ⟨-, ⟨A9, k9, t1, -, hR⟩, -, -, -⟩ := HU.out.ref.open
              have lx := HU.out.lt.2.2.1
              clear hR
              go_wp2
              refine wp_plan [(0, 0, 96), (2, 0, 98), (3, 0, 99), (4, 0, 100), (5, 0, 101), (1, 2, 97), (6, 2, 102), (7, 1, 4)] [] (fun W => W.cell? ⟨x, 1, none⟩ = some (.slice A9 X.l.length k9)) (by kernel_rfl) rfl (by kernel_rfl) (fun _ t _ _ _ h => by cases t <;> exact h) t1 (fun hS => ?_)
              have n0 := Aside0.mk (HU.out.quiet ((Chg.refl _ _).drewN 1))
              clear HU
              have HU := n0
              clear n0
              repeat (refine RP.take (v := ?_) (a' := ?_) rfl rfl (by assumption) (Or.inl ⟨by rfl, ?_⟩) ?_ ?_; rotate_left; (focus (rintro w' hS0; go_simp; with_reducible rfl)); rotate_left; (focus (simp only [Act.put, List.setIfInBounds_toArray, List.set_cons_zero, List.set_cons_succ, i64_w, i32_w]; rfl)))
              refine RP.one rfl rfl (fun K hK => ?_)
              refine goes_ Try.func22 (by kernel_rfl) rfl #[.pointer (some ⟨b, 0, none⟩)] (by rfl) rfl rfl (by (try simp only [List.map_toArray, List.map_cons, List.map_nil]); first | done | rfl) ?_
              (with_reducible refine (HU.out.flying HFI.out.len).mono ?_)
              rintro e w8 ⟨v8, rfl, hv, hd, hkeep⟩
              refine ⟨_, rfl, ?_⟩
              obtain ⟨A8, k8, rfl⟩ := Kd.V_slice hv
              have HV := Aside0.mk hv
              have HU8 := Aside0.mk hd
              have t8 := (hkeep.cell (p := ⟨x, 1, none⟩) lx).trans t1
              refine hK.out _ _ t8 (fun hS => ?_)
              clear hK K
              refine RP.norm (a' := ?_) ?_ ?_
              rotate_left
              · show Act.put _ (some 97) _ = _
                simp only [Act.put, List.setIfInBounds_toArray, List.set_cons_zero, List.set_cons_succ, i64_w, i32_w]
                rfl
              have HRX : Aside0 (RowM w8 (okD b c x o) (.slice A9 X.l.length k9) X.l) := ⟨by obtain ⟨-, ⟨A10, k10, h10, -, hr⟩, -, -, -⟩ := hd.ref.open; rw [t8] at h10; cases h10; exact hr⟩
              clear hv hd hkeep
              refine RP.one rfl rfl (fun K hK => ?_)
              refine goes_ Try.func21 (by kernel_rfl) rfl #[.slice A8 X.l.length k8, .slice A9 X.l.length k9] (by rfl) rfl rfl (by (try simp only [List.map_toArray, List.map_cons, List.map_nil]); first | done | rfl) ?_
              (with_reducible refine (same_calls _ _ X.l _ _ _ HFI.out.len HV.out HRX.out).mono ?_)
              rintro e w9 ⟨rfl, hb⟩
              refine ⟨_, rfl, ?_⟩
              have HL9 := Aside0.mk (below_step HU8.out.low hb)
              refine hK.out _ _ ((hb.cell (p := ⟨x, 1, none⟩) HU8.out.lt.2.2.1).trans t8) (fun hS => ?_)
              clear hK K hb
              refine RP.norm (a' := ?_) ?_ ?_
              rotate_left
              · show Act.put _ (some 102) _ = _
                simp only [Act.put, List.setIfInBounds_toArray, List.set_cons_zero, List.set_cons_succ, i64_w, i32_w]
                rfl
              repeat (refine RP.pure (v := ?_) (a' := ?_) rfl rfl (Or.inl ⟨by rfl, ?_⟩) ?_ ?_; rotate_left; (focus (intro w'; go_simp; with_reducible rfl)); rotate_left; (focus (simp only [Act.put, List.setIfInBounds_toArray, List.set_cons_zero, List.set_cons_succ, i64_w, i32_w]; rfl)))
              refine RP.nil ?_
              go_wp2
              go_ret
              exact ⟨rfl, HL9.out⟩

end Go.Proofs.Ytclmhodgfhkgcaa.Q

/- The law NetCuts. (Printed by gen_cuts.py.) -/
namespace Go.Proofs.Ytclmhodgfhkgcaa.Q
open Go.RowKit Go.Proofs.YtclmhodgfhkgcaaW.PrintWords Go.Proofs.YtclmhodgfhkgcaaW.PrintLast Go.Proofs.YtclmhodgfhkgcaaW.PrintMore
set_option linter.unusedVariables false
set_option linter.unusedSimpArgs false

theorem two_of {X Y : Nt} {p q : Int} (h : Two X p q) (e : Y.nodes = X.nodes) : Two Y p q := by
  unfold Two at *
  rw [e]
  exact h
theorem two_sym {X : Nt} {p q : Int} (h : Two X p q) : Two X q p := by
  unfold Two at *
  omega
/-- What holds of a link that was cut, of its messages, and of another link. -/
theorem cut_off {X : Nt} {p q : Int} (h : Two X p q) : upB (keepX (cutX (cutX X p q true) p q true) (min p q) (max p q)) p q = false ∧ upB (keepX (cutX (cutX X p q true) p q true) (min p q) (max p q)) q p = false := by
  have h1 : isCut (keepX (cutX (cutX X p q true) p q true) (min p q) (max p q)) p q = true := by
    show isCut (cutX (cutX X p q true) p q true) p q = true
    rw [isCut_cutX, if_pos ⟨rfl, rfl⟩]
  have h2 : isCut (keepX (cutX (cutX X p q true) p q true) (min p q) (max p q)) q p = true := by
    show isCut (cutX (cutX X p q true) p q true) q p = true
    rw [isCut_cutX, if_pos ⟨by omega, by omega⟩]
  unfold upB
  rw [h1, h2, Bool.not_true, Bool.and_false, Bool.and_false]
  exact ⟨rfl, rfl⟩
theorem up_same {X Y : Nt} {r s : Int} (hn : Y.nodes = X.nodes) (hc : isCut Y r s = isCut X r s) : upB Y r s = upB X r s := by
  have h2 : Two Y r s ↔ Two X r s := by
    unfold Two
    rw [hn]
  unfold upB
  rw [hc, decide_eq_decide.2 h2]
theorem cut_other {X : Nt} {p q r s : Int} (t : Bool) (h : ¬ ((r = p ∧ s = q) ∨ (r = q ∧ s = p))) : isCut (cutX X p q t) r s = isCut X r s := by
  rw [isCut_cutX, if_neg (by omega)]
theorem cut_send {X : Nt} {p q : Int} (h : Two X p q) : nSend (keepX (cutX (cutX X p q true) p q true) (min p q) (max p q)) ⟨p, q, ⟨#[]⟩⟩ = (11, lose (keepX (cutX (cutX X p q true) p q true) (min p q) (max p q))) := by
  have h1 : isCut (keepX (cutX (cutX X p q true) p q true) (min p q) (max p q)) p q = true := by
    show isCut (cutX (cutX X p q true) p q true) p q = true
    rw [isCut_cutX, if_pos ⟨rfl, rfl⟩]
  have h0 : Two (keepX (cutX (cutX X p q true) p q true) (min p q) (max p q)) (⟨p, q, ⟨#[]⟩⟩ : Msg).f0 (⟨p, q, ⟨#[]⟩⟩ : Msg).f1 := two_of h rfl
  unfold nSend
  rw [if_pos h0, if_neg (by show ¬ (8192 : Int) < ((0 : Nat) : Int); omega), if_pos h1]
theorem cut_left {X : Nt} {p q : Int} {m : Msg} (hm : m ∈ (keepX X (min p q) (max p q)).l) : ¬ ((m.f0 = p ∧ m.f1 = q) ∨ (m.f0 = q ∧ m.f1 = p)) := by
  intro hc
  have h1 := (List.mem_filter.1 hm).2
  rw [(meant_is (p := p) (q := q)).2 hc] at h1
  cases h1
theorem join_up {X : Nt} {p q : Int} (h : Two X p q) : upB (cutX X q p false) p q = true := by
  have h1 : isCut (cutX X q p false) p q = false := by
    rw [isCut_cutX, if_pos ⟨by omega, by omega⟩]
  unfold upB
  rw [h1, decide_eq_true (show Two (cutX X q p false) p q from two_of h rfl)]
  rfl
theorem Duo.from_ {w w2 w3 : World} {b c x o n : Nat} {X Y : Nt} (h : Duo w2 w3 b c x o n X Y) (hb : Below w.heap.size w w2) : Duo w w3 b c x o n X Y :=
  ⟨h.net, h.ref, h.ne, below_step hb h.low, by have := h.ge; have := hb.size; omega⟩
set_option maxHeartbeats 40000000 in
set_option maxRecDepth 100000 in
theorem netCuts_hand (A : Option Addr) (cp : Nat) (l : List Ac) (p q r s : Int) (w : World) (hG : (l.length * 64 ≤ 140737488351232 ∧ l.length ≤ 9223372036854775807 ∧ ∀ y2 ∈ l, ((Lit.int .i64 y2.f0).wf = true ∧ (Lit.int .i64 y2.f1).wf = true ∧ (Lit.int .i64 y2.f2).wf = true ∧ ((Lit.int .i64 y2.f3.f0).wf = true ∧ (Lit.int .i64 y2.f3.f1).wf = true ∧ y2.f3.f2.size ≤ 140737488351232) ∧ True))) (h1 : (Lit.int .i64 p).wf = true) (h2 : (Lit.int .i64 q).wf = true) (h3 : (Lit.int .i64 r).wf = true) (h4 : (Lit.int .i64 s).wf = true) (hC : Kd.C kA w A l.length l) (hle : l.length ≤ cp) :
    Calls Try.prog 6 #[.agg #[.slice A l.length cp, .int .i64 p, .int .i64 q, .int .i64 r, .int .i64 s]] w fun e w' => e = .returned (.bool true) ∧ Below w.heap.size w w' := by
  have HC := Aside0.mk hC
  have hm := hG.2.1
  clear hG h1 h2 h3 h4 hC hle
  have HGR := Aside0.mk (good_run (nodes := 5) (by omega) (by omega) l)
  have HNW := Aside0.mk (fun w => New_ok 5 (by omega) (by omega) w)
  go_enter Try.func6, Try.ntmps6
  go_wp2_with (first
    | ((with_reducible refine gate_dst (N := 1) rfl ?_); refine box_event ?hg (N := 1) ?hd (cs := #[.slice A l.length cp, .int .i64 p, .int .i64 q, .int .i64 r, .int .i64 s]) (t := 53) ?hr ?_; (case hd => rfl); (case hg => rfl); (case hr => first | (go_simp; done) | (go_simp; rfl)); intro gA hgA w1 hbox hb1; have HL := Aside0.mk hb1; obtain ⟨d0, d1, d2, d3, d4, -⟩ := box5 hbox; clear hb1 hbox hgA))
  go_quiet (fail)
  have HL2 := Aside0.mk (pw_below_drewN HL.out nq)
  clear d0 d1 d2 d3 d4 HL
  generalize w1.drewN nq = w2 at HL2 ⊢
  go_wp2_with (first
    | (go_at_call 8; refine (HNW.out _).mono ?_; rintro e w3 ⟨rfl, hn, hb⟩; have HN := Aside0.mk hn; have HB := Aside0.mk hb; clear hn hb)
    | (go_at_call 15; refine (rNew_calls 5 _).mono ?_; rintro e w4 ⟨rfl, hr, hb, -⟩; have HU0 := Aside0.mk ((Duo.start HN.out HB4.out hr hb).from_ HL2.out); clear hr hb HN HB4)
    | (go_at_call 9; refine (awake_calls _).mono ?_; rintro e w5 ⟨rfl, hb⟩; have HN5 := Aside0.mk (fun ok => (HN.out ok).ofBelow (Chg.of_below hb _)); have HB4 := Aside0.mk (below_step HB.out hb); clear HN hb HB; have HN := HN5; clear HN5))
  generalize w2.heap.size + 1 = b at *
  generalize w5.heap.size + 1 = x at *
  generalize w5.heap.size = o at *
  obtain ⟨c, hc⟩ : ∃ c, w2.heap.size = c := ⟨_, rfl⟩
  have HU : Aside0 (Duo w w4 b c x o 0 (X0 5) (X0 5)) := ⟨by rw [← hc]; exact HU0.out⟩
  clear hc HU0
  go_loopg [11] 40 (fun kq vi wr => ∃ i : Nat, vi = .int .i64 i ∧ Aside0 (i + kq = 40) ∧ Aside0 (i ≤ l.length) ∧ Aside0 (Duo w wr b c x o i (aRun 5 (l.take i)) (aRun 5 (l.take i))))
  case atStart => exact ⟨0, rfl, ⟨by omega⟩, ⟨by omega⟩, HU⟩
  case round =>
    clear HU
    obtain ⟨i, rfl, HK, HI, HU⟩ := hrel
    have hi40 : i ≤ 40 := by have := HK.out; omega
    have HGI := Aside0.mk (HGR.out i HI.out)
    by_cases hgo : i < l.length ∧ i < 40
    · obtain ⟨hlt, h40⟩ := hgo
      obtain ⟨ad, rfl, y0, y1, y2, y3, y4, y5, y6⟩ := act_cells (Kd.C_below HC.out HU.out.low) i hlt
      have HR := Aside0.mk (aRun_snoc (nodes := 5) hlt)
      have hi0 : (0 : Int) ≤ (i : Int) := by omega
      have hi1 : (i : Int) < (l.length : Int) := by omega
      obtain ⟨X, hX⟩ : ∃ X, aRun 5 (l.take i) = X := ⟨_, rfl⟩
      rw [hX] at HU HR HGI
      have HD := Aside0.mk (fun w0 (h : Duo w w0 b c x o i X X) => do_calls w w0 b c x o i i X l[i].f0 l[i].f1 l[i].f2 l[i].f3 l[i].f4 h HGI.out (by omega) (by omega))
      generalize l[i] = a at *
      clear hX
      go_wp2_with (first | (go_at_call 16; (with_reducible refine (HD.out _ HU.out).mono ?_); rintro e w6 ⟨rfl, hd, -⟩; have HU6 := Aside0.mk hd; clear hd))
      go_roundg (40 - (i + 1))
      case measure => have := HK.out; omega
      case rel => exact ⟨i + 1, by go_num, ⟨by omega⟩, ⟨by omega⟩, ⟨by rw [HR.out]; exact HU6.out⟩⟩
    · have hends : i < l.length ∧ ¬ i < 40 ∨ ¬ i < l.length := by omega
      clear hgo
      obtain ⟨X, hX⟩ : ∃ X, aRun 5 (l.take i) = X := ⟨_, rfl⟩
      rw [hX] at HU HGI
      have HFI := Aside0.mk (HGI.out.fine (by omega))
      have HI40 := Aside0.mk hi40
      clear hX
      by_cases h2 : Two X p q
      case' neg =>
        have HD := Aside0.mk (fun w0 (h : Duo w w0 b c x o i X X) => h.cut HFI.out (by have := HI40.out; omega) p q false)
        rw [nCut_no h2] at HD
        clear h2
      case' pos =>
        have H2 := Aside0.mk h2
        have HD := Aside0.mk (fun w0 (h : Duo w w0 b c x o i X X) => h.cut HFI.out (by have := HI40.out; omega) p q false)
        rw [nCut_yes h2] at HD
        have HF1 : Aside0 (Fine (cutX X p q true)) := ⟨(HGI.out.cutX p q true).fine (by omega)⟩
        have hpq : p ≠ q := by unfold Two at h2; omega
        clear h2
      case neg =>
        rcases hends with ⟨e1, e2⟩ | e1
        all_goals
          as_aux_lemma =>
            go_wp2_with (first | (go_at_call 23; (with_reducible refine (HD.out _ HU.out).mono ?_); rintro e w6 ⟨rfl, hd, -⟩; have HU6 := Aside0.mk hd; clear hd))
            go_ret
            exact ⟨rfl, HU6.out.low⟩
      case pos =>
        by_cases ht : Two X r s
        case' neg => have HT := Aside0.mk ht
        case neg =>
          clear ht
          rcases hends with ⟨e1, e2⟩ | e1
          all_goals
            as_aux_lemma =>
              go_wp2_with (first
                | (go_at_call 23; (with_reducible refine (HD.out _ HU.out).mono ?_); rintro e w6 ⟨rfl, hd, -⟩; have HU6 := Aside0.mk hd; clear hd HU)
                | (go_at_call 19; (with_reducible refine (HU6.out.rtwo_no HT.out).mono ?_); rintro e w7 ⟨rfl, rfl⟩))
              go_ret
              exact ⟨rfl, HU6.out.low⟩
        have HT := Aside0.mk ht
        have hrs : r ≠ s := by unfold Two at ht; omega
        have hcs : (p = r ∧ q = s) ∨ (p = r ∧ q ≠ s ∧ p ≠ s) ∨ (p ≠ r ∧ p = s ∧ q = r) ∨ (p ≠ r ∧ p = s ∧ q ≠ r) ∨ (p ≠ r ∧ p ≠ s) := by omega
        clear ht
        rcases hcs with ⟨c1, c2⟩ | ⟨c1, c2, c3⟩ | ⟨c1, c3, c4⟩ | ⟨c1, c3, c4⟩ | ⟨c1, c3⟩
        case inl =>
          have fc1 : (p == r) = true := by simpa using c1
          have fc2 : (q == s) = true := by simpa using c2
          clear c1 c2
          rcases hends with ⟨e1, e2⟩ | e1
          all_goals
            as_aux_lemma =>
              go_wp2_with (first
                | (go_at_call 23; (with_reducible refine (HD.out _ HU.out).mono ?_); rintro e w6 ⟨rfl, hd, -⟩; have HU6 := Aside0.mk hd; clear hd HU)
                | (go_at_call 19; (with_reducible refine (HU6.out.rtwo_yes HT.out).mono ?_); rintro e w7 ⟨rfl, rfl⟩))
              go_ret
              exact ⟨rfl, HU6.out.low⟩
        case inr.inr.inl =>
          have fc1 : (p == r) = false := by simpa using c1
          have fc3 : (p == s) = true := by simpa using c3
          have fc4 : (q == r) = true := by simpa using c4
          clear c1 c3 c4
          rcases hends with ⟨e1, e2⟩ | e1
          all_goals
            as_aux_lemma =>
              go_wp2_with (first
                | (go_at_call 23; (with_reducible refine (HD.out _ HU.out).mono ?_); rintro e w6 ⟨rfl, hd, -⟩; have HU6 := Aside0.mk hd; clear hd HU)
                | (go_at_call 19; (with_reducible refine (HU6.out.rtwo_yes HT.out).mono ?_); rintro e w7 ⟨rfl, rfl⟩))
              go_ret
              exact ⟨rfl, HU6.out.low⟩
        case inr.inl =>
          have fc1 : (p == r) = true := by simpa using c1
          have fc2 : (q == s) = false := by simpa using c2
          have fc3 : (p == s) = false := by simpa using c3
          have hno : ¬ ((r = p ∧ s = q) ∨ (r = q ∧ s = p)) := by omega
          clear c1 c2 c3
          have HUP1 := Aside0.mk (fun w0 (h : Duo w w0 b c x o (i + 1) (cutX X p q true) X) => h.up HF1.out.few r s)
          have HC2 := Aside0.mk (fun w0 (h : Duo w w0 b c x o (i + 1) (cutX X p q true) X) => h.cut HF1.out (by have := HI40.out; omega) p q true)
          rw [nCut_all (X := (cutX X p q true)) (two_of H2.out rfl)] at HC2
          have HF2 : Aside0 (Fine (keepX (cutX (cutX X p q true) p q true) (min p q) (max p q))) := ⟨((((HGI.out.cutX p q true).cutX p q true).keep _ _).fine (by have := HI40.out; omega))⟩
          have HUP2 := Aside0.mk (fun w0 (h : Duo w w0 b c x o (i + 1 + 1) (keepX (cutX (cutX X p q true) p q true) (min p q) (max p q)) X) => h.up HF2.out.few p q)
          rw [(cut_off H2.out).1] at HUP2
          have HUP3 := Aside0.mk (fun w0 (h : Duo w w0 b c x o (i + 1 + 1) (keepX (cutX (cutX X p q true) p q true) (min p q) (max p q)) X) => h.up HF2.out.few q p)
          rw [(cut_off H2.out).2] at HUP3
          have HUP4 := Aside0.mk (fun w0 (h : Duo w w0 b c x o (i + 1 + 1) (keepX (cutX (cutX X p q true) p q true) (min p q) (max p q)) X) => h.up HF2.out.few r s)
          rw [show upB (keepX (cutX (cutX X p q true) p q true) (min p q) (max p q)) r s = upB (cutX X p q true) r s from up_same rfl (cut_other true hno)] at HUP4
          have HSE := Aside0.mk (fun w0 (h : Duo w w0 b c x o (i + 1 + 1) (keepX (cutX (cutX X p q true) p q true) (min p q) (max p q)) X) => h.send HF2.out ⟨p, q, ⟨#[]⟩⟩)
          rw [cut_send H2.out] at HSE
          have HLF := Aside0.mk (fun m (hm : m ∈ (lose (keepX (cutX (cutX X p q true) p q true) (min p q) (max p q))).l) => cut_left (X := cutX (cutX X p q true) p q true) (p := p) (q := q) hm)
          have HF3 : Aside0 (Fine (lose (keepX (cutX (cutX X p q true) p q true) (min p q) (max p q)))) := ⟨⟨HF2.out.few, HF2.out.len, by have := HF2.out.l0; show 0 ≤ _ + 1; omega, by have h1 := (((HGI.out.cutX p q true).cutX p q true).keep (min p q) (max p q)).sum; have := HI40.out; show _ + 1 ≤ _; omega⟩⟩
          have HJO := Aside0.mk (fun w0 (h : Duo w w0 b c x o (i + 1 + 1) (lose (keepX (cutX (cutX X p q true) p q true) (min p q) (max p q))) X) => h.join HF3.out q p)
          rw [nJoin_yes (X := lose (keepX (cutX (cutX X p q true) p q true) (min p q) (max p q))) (two_of (two_sym H2.out) rfl)] at HJO
          have HUP5 := Aside0.mk (fun w0 (h : Duo w w0 b c x o (i + 1 + 1) (cutX (lose (keepX (cutX (cutX X p q true) p q true) (min p q) (max p q))) q p false) X) => h.up HF3.out.few p q)
          rw [join_up (X := lose (keepX (cutX (cutX X p q true) p q true) (min p q) (max p q))) (two_of H2.out rfl)] at HUP5
          have HUP6 := Aside0.mk (fun w0 (h : Duo w w0 b c x o (i + 1 + 1) (cutX (lose (keepX (cutX (cutX X p q true) p q true) (min p q) (max p q))) q p false) X) => h.up HF3.out.few r s)
          rw [show upB (cutX (lose (keepX (cutX (cutX X p q true) p q true) (min p q) (max p q))) q p false) r s = upB (cutX X p q true) r s from up_same rfl ((cut_other false (by omega)).trans (cut_other true hno))] at HUP6
          generalize upB (cutX X p q true) r s = u at *
          generalize (keepX (cutX (cutX X p q true) p q true) (min p q) (max p q)) = X2 at *
          generalize (cutX X p q true) = X1 at *
          clear hno
          rcases hends with ⟨e1, e2⟩ | e1
          all_goals
            cases u
            all_goals
              as_aux_lemma =>
                go_wp2_with (first
                  | (go_at_call 23; (with_reducible refine (HD.out _ HU.out).mono ?_); rintro e w6 ⟨rfl, hd, -⟩; have HU6 := Aside0.mk hd; clear hd HU)
                  | (go_at_call 19; (with_reducible refine (HU6.out.rtwo_yes HT.out).mono ?_); rintro e w7 ⟨rfl, rfl⟩)
                  | (go_at_call 18; (with_reducible refine (HUP1.out _ HU6.out).mono ?_); rintro e w5 ⟨rfl, hd, -⟩; have HU7 := Aside0.mk hd; clear hd HU6)
                  | (go_at_call 23; (with_reducible refine (HC2.out _ HU7.out).mono ?_); rintro e w8 ⟨rfl, hd, -⟩; have HU8 := Aside0.mk hd; clear hd HU7)
                  | (go_at_call 18; (with_reducible refine (HUP2.out _ HU8.out).mono ?_); rintro e w5 ⟨rfl, hd, -⟩; have HU9 := Aside0.mk hd; clear hd HU8)
                  | (go_at_call 18; (with_reducible refine (HUP3.out _ HU9.out).mono ?_); rintro e w5 ⟨rfl, hd, -⟩; have HU10 := Aside0.mk hd; clear hd HU9)
                  | (go_at_call 18; (with_reducible refine (HUP4.out _ HU10.out).mono ?_); rintro e w5 ⟨rfl, hd, -⟩; have HU11 := Aside0.mk hd; clear hd HU10)
                  | (go_at_call 10; (with_reducible refine (HSE.out _ HU11.out).mono ?_); rintro e w12 ⟨rfl, hd, -⟩; have HU12 := Aside0.mk hd; clear hd HU11)
                  | (go_at_call 22; (with_reducible refine (HU12.out.flying HF3.out.len).mono ?_); rintro e w13 ⟨v13, rfl, hv, hd, -⟩; have HU13 := Aside0.mk hd; obtain ⟨A13, k13, rfl⟩ := Kd.V_slice hv; have HV13 := Aside0.mk hv; clear hv hd))
                generalize lose X2 = X3 at *
                obtain ⟨L, hL⟩ : ∃ L, X3.l = L := ⟨_, rfl⟩
                rw [hL] at HV13 HLF ⊢
                have HLL := Aside0.mk (show L.length ≤ 256 by rw [← hL]; exact HF3.out.len)
                clear hL
                go_loopg [15] L.length (fun kq vk wr => ∃ k : Nat, vk = .int .i64 k ∧ Aside0 (k + kq = L.length) ∧ Aside0 (Duo w wr b c x o (i + 1 + 1) X3 X) ∧ Aside0 (Kd.C kM wr A13 L.length L))
                case atStart => exact ⟨0, rfl, ⟨by omega⟩, HU13, ⟨HV13.out.fC⟩⟩
                case round =>
                  clear HU13 HV13
                  obtain ⟨k, rfl, HK3, HU13, HV13⟩ := hrel
                  have hk : k ≤ L.length := by have := HK3.out; omega
                  have hL256 := HLL.out
                  by_cases hkl : k < L.length
                  · obtain ⟨ad, rfl, y0, y1, y2⟩ := msg_cells HV13.out k hkl
                    have hlf := HLF.out _ (List.getElem_mem hkl)
                    have hk0 : (0 : Int) ≤ (k : Int) := by omega
                    have hk1 : (k : Int) < (L.length : Int) := by omega
                    generalize L[k] = m at *
                    have hcm : (m.f0 = p ∧ m.f1 ≠ q ∧ m.f0 ≠ q) ∨ (m.f0 ≠ p ∧ m.f0 = q ∧ m.f1 ≠ p) ∨ (m.f0 ≠ p ∧ m.f0 ≠ q) := by omega
                    rcases hcm with ⟨g1, g2, g3⟩ | ⟨g1, g3, g4⟩ | ⟨g1, g3⟩
                    case' inl => (have j1 : (m.f0 == p) = true := by simpa using g1); (have j2 : (m.f1 == q) = false := by simpa using g2); (have j3 : (m.f0 == q) = false := by simpa using g3)
                    case' inr.inl => (have j1 : (m.f0 == p) = false := by simpa using g1); (have j3 : (m.f0 == q) = true := by simpa using g3); (have j4 : (m.f1 == p) = false := by simpa using g4)
                    case' inr.inr => (have j1 : (m.f0 == p) = false := by simpa using g1); (have j3 : (m.f0 == q) = false := by simpa using g3)
                    all_goals
                      first | clear g1 g2 g3 | clear g1 g3 g4 | clear g1 g3
                      clear hlf
                      go_wp2
                      go_roundg (L.length - (k + 1))
                      case measure => have := HK3.out; omega
                      case rel => exact ⟨k + 1, by go_num, ⟨by omega⟩, HU13, HV13⟩
                  · go_wp2_with (first
                      | (go_at_call 24; (with_reducible refine (HJO.out _ HU13.out).mono ?_); rintro e w14 ⟨rfl, hd, -⟩; have HU14 := Aside0.mk hd; clear hd)
                      | (go_at_call 18; (with_reducible refine (HUP5.out _ HU14.out).mono ?_); rintro e w5 ⟨rfl, hd, -⟩; have HU15 := Aside0.mk hd; clear hd HU14)
                      | (go_at_call 18; (with_reducible refine (HUP6.out _ HU15.out).mono ?_); rintro e w5 ⟨rfl, hd, -⟩; have HU16 := Aside0.mk hd; clear hd HU15))
                    go_ret
                    exact ⟨rfl, HU16.out.low⟩
        case inr.inr.inr.inl =>
          have fc1 : (p == r) = false := by simpa using c1
          have fc3 : (p == s) = true := by simpa using c3
          have fc4 : (q == r) = false := by simpa using c4
          have hno : ¬ ((r = p ∧ s = q) ∨ (r = q ∧ s = p)) := by omega
          clear c1 c3 c4
          have HUP1 := Aside0.mk (fun w0 (h : Duo w w0 b c x o (i + 1) (cutX X p q true) X) => h.up HF1.out.few r s)
          have HC2 := Aside0.mk (fun w0 (h : Duo w w0 b c x o (i + 1) (cutX X p q true) X) => h.cut HF1.out (by have := HI40.out; omega) p q true)
          rw [nCut_all (X := (cutX X p q true)) (two_of H2.out rfl)] at HC2
          have HF2 : Aside0 (Fine (keepX (cutX (cutX X p q true) p q true) (min p q) (max p q))) := ⟨((((HGI.out.cutX p q true).cutX p q true).keep _ _).fine (by have := HI40.out; omega))⟩
          have HUP2 := Aside0.mk (fun w0 (h : Duo w w0 b c x o (i + 1 + 1) (keepX (cutX (cutX X p q true) p q true) (min p q) (max p q)) X) => h.up HF2.out.few p q)
          rw [(cut_off H2.out).1] at HUP2
          have HUP3 := Aside0.mk (fun w0 (h : Duo w w0 b c x o (i + 1 + 1) (keepX (cutX (cutX X p q true) p q true) (min p q) (max p q)) X) => h.up HF2.out.few q p)
          rw [(cut_off H2.out).2] at HUP3
          have HUP4 := Aside0.mk (fun w0 (h : Duo w w0 b c x o (i + 1 + 1) (keepX (cutX (cutX X p q true) p q true) (min p q) (max p q)) X) => h.up HF2.out.few r s)
          rw [show upB (keepX (cutX (cutX X p q true) p q true) (min p q) (max p q)) r s = upB (cutX X p q true) r s from up_same rfl (cut_other true hno)] at HUP4
          have HSE := Aside0.mk (fun w0 (h : Duo w w0 b c x o (i + 1 + 1) (keepX (cutX (cutX X p q true) p q true) (min p q) (max p q)) X) => h.send HF2.out ⟨p, q, ⟨#[]⟩⟩)
          rw [cut_send H2.out] at HSE
          have HLF := Aside0.mk (fun m (hm : m ∈ (lose (keepX (cutX (cutX X p q true) p q true) (min p q) (max p q))).l) => cut_left (X := cutX (cutX X p q true) p q true) (p := p) (q := q) hm)
          have HF3 : Aside0 (Fine (lose (keepX (cutX (cutX X p q true) p q true) (min p q) (max p q)))) := ⟨⟨HF2.out.few, HF2.out.len, by have := HF2.out.l0; show 0 ≤ _ + 1; omega, by have h1 := (((HGI.out.cutX p q true).cutX p q true).keep (min p q) (max p q)).sum; have := HI40.out; show _ + 1 ≤ _; omega⟩⟩
          have HJO := Aside0.mk (fun w0 (h : Duo w w0 b c x o (i + 1 + 1) (lose (keepX (cutX (cutX X p q true) p q true) (min p q) (max p q))) X) => h.join HF3.out q p)
          rw [nJoin_yes (X := lose (keepX (cutX (cutX X p q true) p q true) (min p q) (max p q))) (two_of (two_sym H2.out) rfl)] at HJO
          have HUP5 := Aside0.mk (fun w0 (h : Duo w w0 b c x o (i + 1 + 1) (cutX (lose (keepX (cutX (cutX X p q true) p q true) (min p q) (max p q))) q p false) X) => h.up HF3.out.few p q)
          rw [join_up (X := lose (keepX (cutX (cutX X p q true) p q true) (min p q) (max p q))) (two_of H2.out rfl)] at HUP5
          have HUP6 := Aside0.mk (fun w0 (h : Duo w w0 b c x o (i + 1 + 1) (cutX (lose (keepX (cutX (cutX X p q true) p q true) (min p q) (max p q))) q p false) X) => h.up HF3.out.few r s)
          rw [show upB (cutX (lose (keepX (cutX (cutX X p q true) p q true) (min p q) (max p q))) q p false) r s = upB (cutX X p q true) r s from up_same rfl ((cut_other false (by omega)).trans (cut_other true hno))] at HUP6
          generalize upB (cutX X p q true) r s = u at *
          generalize (keepX (cutX (cutX X p q true) p q true) (min p q) (max p q)) = X2 at *
          generalize (cutX X p q true) = X1 at *
          clear hno
          rcases hends with ⟨e1, e2⟩ | e1
          all_goals
            cases u
            all_goals
              as_aux_lemma =>
                go_wp2_with (first
                  | (go_at_call 23; (with_reducible refine (HD.out _ HU.out).mono ?_); rintro e w6 ⟨rfl, hd, -⟩; have HU6 := Aside0.mk hd; clear hd HU)
                  | (go_at_call 19; (with_reducible refine (HU6.out.rtwo_yes HT.out).mono ?_); rintro e w7 ⟨rfl, rfl⟩)
                  | (go_at_call 18; (with_reducible refine (HUP1.out _ HU6.out).mono ?_); rintro e w5 ⟨rfl, hd, -⟩; have HU7 := Aside0.mk hd; clear hd HU6)
                  | (go_at_call 23; (with_reducible refine (HC2.out _ HU7.out).mono ?_); rintro e w8 ⟨rfl, hd, -⟩; have HU8 := Aside0.mk hd; clear hd HU7)
                  | (go_at_call 18; (with_reducible refine (HUP2.out _ HU8.out).mono ?_); rintro e w5 ⟨rfl, hd, -⟩; have HU9 := Aside0.mk hd; clear hd HU8)
                  | (go_at_call 18; (with_reducible refine (HUP3.out _ HU9.out).mono ?_); rintro e w5 ⟨rfl, hd, -⟩; have HU10 := Aside0.mk hd; clear hd HU9)
                  | (go_at_call 18; (with_reducible refine (HUP4.out _ HU10.out).mono ?_); rintro e w5 ⟨rfl, hd, -⟩; have HU11 := Aside0.mk hd; clear hd HU10)
                  | (go_at_call 10; (with_reducible refine (HSE.out _ HU11.out).mono ?_); rintro e w12 ⟨rfl, hd, -⟩; have HU12 := Aside0.mk hd; clear hd HU11)
                  | (go_at_call 22; (with_reducible refine (HU12.out.flying HF3.out.len).mono ?_); rintro e w13 ⟨v13, rfl, hv, hd, -⟩; have HU13 := Aside0.mk hd; obtain ⟨A13, k13, rfl⟩ := Kd.V_slice hv; have HV13 := Aside0.mk hv; clear hv hd))
                generalize lose X2 = X3 at *
                obtain ⟨L, hL⟩ : ∃ L, X3.l = L := ⟨_, rfl⟩
                rw [hL] at HV13 HLF ⊢
                have HLL := Aside0.mk (show L.length ≤ 256 by rw [← hL]; exact HF3.out.len)
                clear hL
                go_loopg [15] L.length (fun kq vk wr => ∃ k : Nat, vk = .int .i64 k ∧ Aside0 (k + kq = L.length) ∧ Aside0 (Duo w wr b c x o (i + 1 + 1) X3 X) ∧ Aside0 (Kd.C kM wr A13 L.length L))
                case atStart => exact ⟨0, rfl, ⟨by omega⟩, HU13, ⟨HV13.out.fC⟩⟩
                case round =>
                  clear HU13 HV13
                  obtain ⟨k, rfl, HK3, HU13, HV13⟩ := hrel
                  have hk : k ≤ L.length := by have := HK3.out; omega
                  have hL256 := HLL.out
                  by_cases hkl : k < L.length
                  · obtain ⟨ad, rfl, y0, y1, y2⟩ := msg_cells HV13.out k hkl
                    have hlf := HLF.out _ (List.getElem_mem hkl)
                    have hk0 : (0 : Int) ≤ (k : Int) := by omega
                    have hk1 : (k : Int) < (L.length : Int) := by omega
                    generalize L[k] = m at *
                    have hcm : (m.f0 = p ∧ m.f1 ≠ q ∧ m.f0 ≠ q) ∨ (m.f0 ≠ p ∧ m.f0 = q ∧ m.f1 ≠ p) ∨ (m.f0 ≠ p ∧ m.f0 ≠ q) := by omega
                    rcases hcm with ⟨g1, g2, g3⟩ | ⟨g1, g3, g4⟩ | ⟨g1, g3⟩
                    case' inl => (have j1 : (m.f0 == p) = true := by simpa using g1); (have j2 : (m.f1 == q) = false := by simpa using g2); (have j3 : (m.f0 == q) = false := by simpa using g3)
                    case' inr.inl => (have j1 : (m.f0 == p) = false := by simpa using g1); (have j3 : (m.f0 == q) = true := by simpa using g3); (have j4 : (m.f1 == p) = false := by simpa using g4)
                    case' inr.inr => (have j1 : (m.f0 == p) = false := by simpa using g1); (have j3 : (m.f0 == q) = false := by simpa using g3)
                    all_goals
                      first | clear g1 g2 g3 | clear g1 g3 g4 | clear g1 g3
                      clear hlf
                      go_wp2
                      go_roundg (L.length - (k + 1))
                      case measure => have := HK3.out; omega
                      case rel => exact ⟨k + 1, by go_num, ⟨by omega⟩, HU13, HV13⟩
                  · go_wp2_with (first
                      | (go_at_call 24; (with_reducible refine (HJO.out _ HU13.out).mono ?_); rintro e w14 ⟨rfl, hd, -⟩; have HU14 := Aside0.mk hd; clear hd)
                      | (go_at_call 18; (with_reducible refine (HUP5.out _ HU14.out).mono ?_); rintro e w5 ⟨rfl, hd, -⟩; have HU15 := Aside0.mk hd; clear hd HU14)
                      | (go_at_call 18; (with_reducible refine (HUP6.out _ HU15.out).mono ?_); rintro e w5 ⟨rfl, hd, -⟩; have HU16 := Aside0.mk hd; clear hd HU15))
                    go_ret
                    exact ⟨rfl, HU16.out.low⟩
        case inr.inr.inr.inr =>
          have fc1 : (p == r) = false := by simpa using c1
          have fc3 : (p == s) = false := by simpa using c3
          have hno : ¬ ((r = p ∧ s = q) ∨ (r = q ∧ s = p)) := by omega
          clear c1 c3
          have HUP1 := Aside0.mk (fun w0 (h : Duo w w0 b c x o (i + 1) (cutX X p q true) X) => h.up HF1.out.few r s)
          have HC2 := Aside0.mk (fun w0 (h : Duo w w0 b c x o (i + 1) (cutX X p q true) X) => h.cut HF1.out (by have := HI40.out; omega) p q true)
          rw [nCut_all (X := (cutX X p q true)) (two_of H2.out rfl)] at HC2
          have HF2 : Aside0 (Fine (keepX (cutX (cutX X p q true) p q true) (min p q) (max p q))) := ⟨((((HGI.out.cutX p q true).cutX p q true).keep _ _).fine (by have := HI40.out; omega))⟩
          have HUP2 := Aside0.mk (fun w0 (h : Duo w w0 b c x o (i + 1 + 1) (keepX (cutX (cutX X p q true) p q true) (min p q) (max p q)) X) => h.up HF2.out.few p q)
          rw [(cut_off H2.out).1] at HUP2
          have HUP3 := Aside0.mk (fun w0 (h : Duo w w0 b c x o (i + 1 + 1) (keepX (cutX (cutX X p q true) p q true) (min p q) (max p q)) X) => h.up HF2.out.few q p)
          rw [(cut_off H2.out).2] at HUP3
          have HUP4 := Aside0.mk (fun w0 (h : Duo w w0 b c x o (i + 1 + 1) (keepX (cutX (cutX X p q true) p q true) (min p q) (max p q)) X) => h.up HF2.out.few r s)
          rw [show upB (keepX (cutX (cutX X p q true) p q true) (min p q) (max p q)) r s = upB (cutX X p q true) r s from up_same rfl (cut_other true hno)] at HUP4
          have HSE := Aside0.mk (fun w0 (h : Duo w w0 b c x o (i + 1 + 1) (keepX (cutX (cutX X p q true) p q true) (min p q) (max p q)) X) => h.send HF2.out ⟨p, q, ⟨#[]⟩⟩)
          rw [cut_send H2.out] at HSE
          have HLF := Aside0.mk (fun m (hm : m ∈ (lose (keepX (cutX (cutX X p q true) p q true) (min p q) (max p q))).l) => cut_left (X := cutX (cutX X p q true) p q true) (p := p) (q := q) hm)
          have HF3 : Aside0 (Fine (lose (keepX (cutX (cutX X p q true) p q true) (min p q) (max p q)))) := ⟨⟨HF2.out.few, HF2.out.len, by have := HF2.out.l0; show 0 ≤ _ + 1; omega, by have h1 := (((HGI.out.cutX p q true).cutX p q true).keep (min p q) (max p q)).sum; have := HI40.out; show _ + 1 ≤ _; omega⟩⟩
          have HJO := Aside0.mk (fun w0 (h : Duo w w0 b c x o (i + 1 + 1) (lose (keepX (cutX (cutX X p q true) p q true) (min p q) (max p q))) X) => h.join HF3.out q p)
          rw [nJoin_yes (X := lose (keepX (cutX (cutX X p q true) p q true) (min p q) (max p q))) (two_of (two_sym H2.out) rfl)] at HJO
          have HUP5 := Aside0.mk (fun w0 (h : Duo w w0 b c x o (i + 1 + 1) (cutX (lose (keepX (cutX (cutX X p q true) p q true) (min p q) (max p q))) q p false) X) => h.up HF3.out.few p q)
          rw [join_up (X := lose (keepX (cutX (cutX X p q true) p q true) (min p q) (max p q))) (two_of H2.out rfl)] at HUP5
          have HUP6 := Aside0.mk (fun w0 (h : Duo w w0 b c x o (i + 1 + 1) (cutX (lose (keepX (cutX (cutX X p q true) p q true) (min p q) (max p q))) q p false) X) => h.up HF3.out.few r s)
          rw [show upB (cutX (lose (keepX (cutX (cutX X p q true) p q true) (min p q) (max p q))) q p false) r s = upB (cutX X p q true) r s from up_same rfl ((cut_other false (by omega)).trans (cut_other true hno))] at HUP6
          generalize upB (cutX X p q true) r s = u at *
          generalize (keepX (cutX (cutX X p q true) p q true) (min p q) (max p q)) = X2 at *
          generalize (cutX X p q true) = X1 at *
          clear hno
          rcases hends with ⟨e1, e2⟩ | e1
          all_goals
            cases u
            all_goals
              as_aux_lemma =>
                go_wp2_with (first
                  | (go_at_call 23; (with_reducible refine (HD.out _ HU.out).mono ?_); rintro e w6 ⟨rfl, hd, -⟩; have HU6 := Aside0.mk hd; clear hd HU)
                  | (go_at_call 19; (with_reducible refine (HU6.out.rtwo_yes HT.out).mono ?_); rintro e w7 ⟨rfl, rfl⟩)
                  | (go_at_call 18; (with_reducible refine (HUP1.out _ HU6.out).mono ?_); rintro e w5 ⟨rfl, hd, -⟩; have HU7 := Aside0.mk hd; clear hd HU6)
                  | (go_at_call 23; (with_reducible refine (HC2.out _ HU7.out).mono ?_); rintro e w8 ⟨rfl, hd, -⟩; have HU8 := Aside0.mk hd; clear hd HU7)
                  | (go_at_call 18; (with_reducible refine (HUP2.out _ HU8.out).mono ?_); rintro e w5 ⟨rfl, hd, -⟩; have HU9 := Aside0.mk hd; clear hd HU8)
                  | (go_at_call 18; (with_reducible refine (HUP3.out _ HU9.out).mono ?_); rintro e w5 ⟨rfl, hd, -⟩; have HU10 := Aside0.mk hd; clear hd HU9)
                  | (go_at_call 18; (with_reducible refine (HUP4.out _ HU10.out).mono ?_); rintro e w5 ⟨rfl, hd, -⟩; have HU11 := Aside0.mk hd; clear hd HU10)
                  | (go_at_call 10; (with_reducible refine (HSE.out _ HU11.out).mono ?_); rintro e w12 ⟨rfl, hd, -⟩; have HU12 := Aside0.mk hd; clear hd HU11)
                  | (go_at_call 22; (with_reducible refine (HU12.out.flying HF3.out.len).mono ?_); rintro e w13 ⟨v13, rfl, hv, hd, -⟩; have HU13 := Aside0.mk hd; obtain ⟨A13, k13, rfl⟩ := Kd.V_slice hv; have HV13 := Aside0.mk hv; clear hv hd))
                generalize lose X2 = X3 at *
                obtain ⟨L, hL⟩ : ∃ L, X3.l = L := ⟨_, rfl⟩
                rw [hL] at HV13 HLF ⊢
                have HLL := Aside0.mk (show L.length ≤ 256 by rw [← hL]; exact HF3.out.len)
                clear hL
                go_loopg [15] L.length (fun kq vk wr => ∃ k : Nat, vk = .int .i64 k ∧ Aside0 (k + kq = L.length) ∧ Aside0 (Duo w wr b c x o (i + 1 + 1) X3 X) ∧ Aside0 (Kd.C kM wr A13 L.length L))
                case atStart => exact ⟨0, rfl, ⟨by omega⟩, HU13, ⟨HV13.out.fC⟩⟩
                case round =>
                  clear HU13 HV13
                  obtain ⟨k, rfl, HK3, HU13, HV13⟩ := hrel
                  have hk : k ≤ L.length := by have := HK3.out; omega
                  have hL256 := HLL.out
                  by_cases hkl : k < L.length
                  · obtain ⟨ad, rfl, y0, y1, y2⟩ := msg_cells HV13.out k hkl
                    have hlf := HLF.out _ (List.getElem_mem hkl)
                    have hk0 : (0 : Int) ≤ (k : Int) := by omega
                    have hk1 : (k : Int) < (L.length : Int) := by omega
                    generalize L[k] = m at *
                    have hcm : (m.f0 = p ∧ m.f1 ≠ q ∧ m.f0 ≠ q) ∨ (m.f0 ≠ p ∧ m.f0 = q ∧ m.f1 ≠ p) ∨ (m.f0 ≠ p ∧ m.f0 ≠ q) := by omega
                    rcases hcm with ⟨g1, g2, g3⟩ | ⟨g1, g3, g4⟩ | ⟨g1, g3⟩
                    case' inl => (have j1 : (m.f0 == p) = true := by simpa using g1); (have j2 : (m.f1 == q) = false := by simpa using g2); (have j3 : (m.f0 == q) = false := by simpa using g3)
                    case' inr.inl => (have j1 : (m.f0 == p) = false := by simpa using g1); (have j3 : (m.f0 == q) = true := by simpa using g3); (have j4 : (m.f1 == p) = false := by simpa using g4)
                    case' inr.inr => (have j1 : (m.f0 == p) = false := by simpa using g1); (have j3 : (m.f0 == q) = false := by simpa using g3)
                    all_goals
                      first | clear g1 g2 g3 | clear g1 g3 g4 | clear g1 g3
                      clear hlf
                      go_wp2
                      go_roundg (L.length - (k + 1))
                      case measure => have := HK3.out; omega
                      case rel => exact ⟨k + 1, by go_num, ⟨by omega⟩, HU13, HV13⟩
                  · go_wp2_with (first
                      | (go_at_call 24; (with_reducible refine (HJO.out _ HU13.out).mono ?_); rintro e w14 ⟨rfl, hd, -⟩; have HU14 := Aside0.mk hd; clear hd)
                      | (go_at_call 18; (with_reducible refine (HUP5.out _ HU14.out).mono ?_); rintro e w5 ⟨rfl, hd, -⟩; have HU15 := Aside0.mk hd; clear hd HU14)
                      | (go_at_call 18; (with_reducible refine (HUP6.out _ HU15.out).mono ?_); rintro e w5 ⟨rfl, hd, -⟩; have HU16 := Aside0.mk hd; clear hd HU15))
                    go_ret
                    exact ⟨rfl, HU16.out.low⟩

end Go.Proofs.Ytclmhodgfhkgcaa.Q
