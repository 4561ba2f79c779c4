/- Texts of this session laid together (merge.py): YtfmlamnkpoloaaaQeq58, YtfmlamnkpoloaaaFAwake, YtfmlamnkpoloaaaFNone, YtfmlamnkpoloaaaHOpen. -/
import Derived.ChangeArms
import Derived.Deep.Slices
import Derived.SizedLaws
import Derived.Test.YtfmlamnkpoloaaaTDedupNoneb
-- By px.py, a program of this session that drives the kit's printer: laid out of the translation; Lean checks it.
namespace Go.Proofs.Ytfmlamnkpoloaaa.Q
open Go.RowKit Go.Proofs.YtfmlamnkpoloaaaW.PrintWords Go.Proofs.YtfmlamnkpoloaaaW.PrintLast Go.Proofs.YtfmlamnkpoloaaaW.PrintMore
attribute [local go_sem] max2_int min2_int max_two min_two max_three min_three max_four min_four   -- for this text's walks alone
set_option linter.unusedVariables false
set_option linter.unusedSimpArgs false

theorem eqA58 (d : Nat) (w : World) (x0 y0 : Int) (x1 y1 : Int) :
    (Op.equalIn (d + 2) 58 (.agg #[.int .i64 x0, .int .i64 x1]) (.agg #[.int .i64 y0, .int .i64 y1])).run Try.prog w = .ok (x0 == y0 && (x1 == y1)) w := by
  refine eqA_of Try.underlying58 (by kernel_rfl) ?_
  refine eqf_cons (by rfl) (by go_simp; rfl) (by go_simp; rfl) (by go_simp) ?_
  exact eqf_last (by rfl) (by go_simp; rfl) (by go_simp; rfl) (by go_simp)
end Go.Proofs.Ytfmlamnkpoloaaa.Q

/- The contract of awake. -/
namespace Go.Proofs.Ytfmlamnkpoloaaa.Q
open Go.RowKit Go.Proofs.YtfmlamnkpoloaaaW.PrintWords Go.Proofs.YtfmlamnkpoloaaaW.PrintLast Go.Proofs.YtfmlamnkpoloaaaW.PrintMore
attribute [local go_sem high] eqA58
set_option linter.unusedVariables false
set_option linter.unusedSimpArgs false

/-- A table of the call's own. -/
structure Own (w0 w : World) (t : Nat) (T : Tb) : Prop where
  tab : TabAt (fun k => k ≠ t) w t T
  fine : ∀ m, m < 6 → Fine (T m)
  low : Below w0.heap.size w0 w
  ge : w0.heap.size ≤ t
section
variable {w0 w w' : World} {t : Nat} {T T' : Tb} {n seq code r : Int}
theorem Own.step (h : Own w0 w t T) (ht : TabAt (fun k => k ≠ t) w' t T') (hF : ∀ m, m < 6 → Fine (T' m)) (hc : Chg (fun k => k = t) w w') : Own w0 w' t T' := ⟨ht, hF, hc.below h.low h.low.size (fun k hk => by subst hk; exact h.ge), h.ge⟩
theorem Own.below (h : Own w0 w t T) (hb : Below w.heap.size w w') : Own w0 w' t T := ⟨h.tab.chg (Chg.of_below hb (fun _ => False)) (fun h => h) (fun _ _ h => h), h.fine, Below.trans h.low (hb.mono h.low.size), h.ge⟩
theorem own_put (h : Own w0 w t T) (hr : dPut T n seq code = (r, T')) (hF : ∀ m, m < 6 → Fine (T' m)) : Calls Try.prog 13 #[.pointer (some ⟨t, 0, none⟩), .int .i64 n, .int .i64 seq, .int .i64 code] w fun e w' => e = .returned (.int .i64 r) ∧ Own w0 w' t T' :=
  (Put_calls _ t T n seq code w h.tab h.fine (fun _ h => h) (fun k hk => by have := h.tab.lt; omega)).mono fun e w' he => by
    obtain ⟨h1, h2, h3⟩ := he
    rw [hr] at h1 h2
    exact ⟨h1, h.step h2 hF h3⟩
theorem own_got (h : Own w0 w t T) (hr : dGot T n seq = (r, T')) (hF : ∀ m, m < 6 → Fine (T' m)) : Calls Try.prog 11 #[.pointer (some ⟨t, 0, none⟩), .int .i64 n, .int .i64 seq] w fun e w' => e = .returned (.int .i64 r) ∧ Own w0 w' t T' :=
  (Got_calls _ t T n seq w h.tab h.fine (fun _ h => h) (fun k hk => by have := h.tab.lt; omega)).mono fun e w' he => by
    obtain ⟨h1, h2, h3⟩ := he
    rw [hr] at h1 h2
    exact ⟨h1, h.step h2 hF h3⟩
theorem own_drew (h : Own w0 w t T) (k : Nat) : Own w0 (w.drewN k) t T := h.below (pw_below_drewN (Below.refl _ _) k)
theorem own_next (h : Own w0 w t T) (hr : dNext T n = r) : Calls Try.prog 12 #[.pointer (some ⟨t, 0, none⟩), .int .i64 n] w fun e w' => e = .returned (.int .i64 r) ∧ Below w.heap.size w w' :=
  (Next_calls _ t T n w h.tab h.fine).mono fun e w' he => by
    obtain ⟨h1, k, rfl⟩ := he
    rw [hr] at h1
    exact ⟨h1, pw_below_drewN (Below.refl _ _) k⟩
theorem own_first (h : Own w0 w t T) (hr : dFirst T n = r) : Calls Try.prog 23 #[.pointer (some ⟨t, 0, none⟩), .int .i64 n] w fun e w' => e = .returned (.int .i64 r) ∧ Below w.heap.size w w' :=
  (First_calls _ t T n w h.tab h.fine).mono fun e w' he => by
    obtain ⟨h1, k, rfl⟩ := he
    rw [hr] at h1
    exact ⟨h1, pw_below_drewN (Below.refl _ _) k⟩
theorem own_code {a b : Int} (h : Own w0 w t T) (hr : dCode T n seq = (a, b)) : Calls Try.prog 14 #[.pointer (some ⟨t, 0, none⟩), .int .i64 n, .int .i64 seq] w fun e w' => e = .returned (.tuple #[.int .i64 a, .int .i64 b]) ∧ Below w.heap.size w w' :=
  (Code_calls _ t T n seq w h.tab h.fine).mono fun e w' he => by
    obtain ⟨h1, k, rfl⟩ := he
    rw [hr] at h1
    exact ⟨h1, pw_below_drewN (Below.refl _ _) k⟩
theorem own_kept {x : S58} (h : Own w0 w t T) (hr : dKept T n = [x]) : Calls Try.prog 20 #[.pointer (some ⟨t, 0, none⟩), .int .i64 n] w fun e w' => ∃ ad c, e = .returned (.slice (some ad) 1 c) ∧ 1 ≤ c ∧ w'.cell? ad = some (.int .i64 x.f0) ∧ w'.cell? ⟨ad.block, ad.off + 1, none⟩ = some (.int .i64 x.f1) ∧ Below w.heap.size w w' :=
  (Kept_calls _ t T n w h.tab h.fine).mono fun e w' he => by
    obtain ⟨v, h1, h2, h3⟩ := he
    rw [hr] at h2
    obtain ⟨A, c, rfl, hlc, hC⟩ := Kd.R_reads h2
    obtain ⟨ad, rfl, y0, y1⟩ := at_T58 hC 0 (by decide) (by simp)
    have e0 : ad.add ((0 : Int).toNat * 2) = ad := by simp [Addr.add]
    rw [e0] at y0 y1
    exact ⟨ad, c, h1, hlc, y0, y1, h3⟩
end
def Ta : Tb := T0.upd 1 ⟨0, [0]⟩
def Tc : Tb := T0.upd 1 ⟨0, [0, 16]⟩
def Te : Tb := T0.upd 1 ⟨1, [16]⟩
theorem fine0 : Fine ⟨0, []⟩ := by unfold Fine; decide
theorem upd_fine (c : Cl) (hc : Fine c) : ∀ m, m < 6 → Fine (T0.upd 1 c m) := by
  intro m _
  unfold Tb.upd
  split
  · exact hc
  · exact fine0
theorem upd_upd (T : Tb) (n : Nat) (c c' : Cl) : (T.upd n c).upd n c' = T.upd n c' := by
  funext m
  unfold Tb.upd
  by_cases e : m = n <;> simp [e]
theorem f0 : ∀ m, m < 6 → Fine (T0 m) := fun m _ => fine0
theorem fa : ∀ m, m < 6 → Fine (Ta m) := upd_fine _ (by unfold Fine; decide)
theorem fc : ∀ m, m < 6 → Fine (Tc m) := upd_fine _ (by unfold Fine; decide)
theorem fe : ∀ m, m < 6 → Fine (Te m) := upd_fine _ (by unfold Fine; decide)
theorem p1 : dPut T0 1 1 0 = (0, Ta) := rfl
theorem p2 : dPut Ta 1 2 16 = (0, Tc) := by
  have e : dPut Ta 1 2 16 = (0, Ta.upd 1 ⟨0, [0, 16]⟩) := rfl
  rw [e, Ta, upd_upd]
  rfl
theorem p3 : dPut Tc 1 2 0 = (9, Tc) := rfl
theorem p4 : dGot Tc 1 1 = (0, Te) := by
  have e : dGot Tc 1 1 = (0, Tc.upd 1 ⟨1, [16]⟩) := rfl
  rw [e, Tc, upd_upd]
  rfl
set_option maxHeartbeats 4000000 in
set_option maxRecDepth 100000 in
theorem awake_calls (w : World) : Calls Try.prog 9 #[] w fun e w' => e = .returned (.bool true) ∧ Below w.heap.size w w' := by
  go_enter Try.func9, Try.ntmps9
  go_wp2_with (first
    | (go_at_call 8; refine (new_calls _).mono ?_; rintro e w1 ⟨rfl, h1, b1, -⟩; have HO := Aside0.mk (show Own w w1 w.heap.size T0 from ⟨h1 _, f0, b1, Nat.le_refl _⟩); clear h1 b1)
    | (go_at_call 13; (with_reducible refine (own_put (n := 1) (seq := 1) (code := 0) HO.out p1 fa).mono ?_); rintro e w2 ⟨rfl, h⟩; have HO := Aside0.mk h; clear h)
    | (go_at_call 13; (with_reducible refine (own_put (n := 1) (seq := 2) (code := 16) HO.out p2 fc).mono ?_); rintro e w2 ⟨rfl, h⟩; have HO := Aside0.mk h; clear h)
    | (go_at_call 13; (with_reducible refine (own_put (n := 1) (seq := 2) (code := 0) HO.out p3 fc).mono ?_); rintro e w2 ⟨rfl, h⟩; have HO := Aside0.mk h; clear h)
    | (go_at_call 11; (with_reducible refine (own_got (n := 1) (seq := 1) HO.out p4 fe).mono ?_); rintro e w2 ⟨rfl, h⟩; have HO := Aside0.mk h; clear h)
    | (go_at_call 14; (with_reducible refine (own_code (n := 1) (seq := 1) (a := 0) (b := 13) HO.out rfl).mono ?_); rintro e w2 ⟨rfl, hb⟩; have HO := Aside0.mk (HO.out.below hb); clear hb)
    | (go_at_call 20; (with_reducible refine (own_kept (n := 1) (x := ⟨2, 16⟩) HO.out rfl).mono ?_); rintro e w2 ⟨ad, c, rfl, hlc, y0, y1, hb⟩; have HO := Aside0.mk (HO.out.below hb); clear hb)
    | (go_at_call 12; (with_reducible refine (own_next (n := 1) (r := 3) HO.out rfl).mono ?_); rintro e w3 ⟨rfl, hb⟩; have HO := Aside0.mk (HO.out.below hb); clear hb)
    | (go_at_call 23; (with_reducible refine (own_first (n := 1) (r := 2) HO.out rfl).mono ?_); rintro e w3 ⟨rfl, hb⟩; have HO := Aside0.mk (HO.out.below hb); clear hb)
    | (go_at_call 12; (with_reducible refine (own_next (n := 0) (r := 1) HO.out rfl).mono ?_); rintro e w3 ⟨rfl, hb⟩; have HO := Aside0.mk (HO.out.below hb); clear hb))
  go_ret
  exact ⟨rfl, HO.out.low⟩

end Go.Proofs.Ytfmlamnkpoloaaa.Q

/- The law DedupNone: a nil table has nothing. -/
namespace Go.Proofs.Ytfmlamnkpoloaaa.Q
open Go.RowKit Go.Proofs.YtfmlamnkpoloaaaW.PrintWords Go.Proofs.YtfmlamnkpoloaaaW.PrintLast Go.Proofs.YtfmlamnkpoloaaaW.PrintMore
set_option linter.unusedVariables false
set_option linter.unusedSimpArgs false

section
variable (n seq code : Int) (w : World)
theorem none_put : Calls Try.prog 13 #[.pointer none, .int .i64 n, .int .i64 seq, .int .i64 code] w fun e w' => e = .returned (.int .i64 1) ∧ w = w' := by
  go_enter Try.func13, Try.ntmps13
  go_wp2_with (go_at_call 26; refine (find_nil n _).mono ?_; rintro e w' ⟨rfl, rfl⟩)
  go_ret
  exact ⟨rfl, rfl⟩
theorem none_got : Calls Try.prog 11 #[.pointer none, .int .i64 n, .int .i64 seq] w fun e w' => e = .returned (.int .i64 1) ∧ w = w' := by
  go_enter Try.func11, Try.ntmps11
  go_wp2_with (go_at_call 26; refine (find_nil n _).mono ?_; rintro e w' ⟨rfl, rfl⟩)
  go_ret
  exact ⟨rfl, rfl⟩
theorem none_code : Calls Try.prog 14 #[.pointer none, .int .i64 n, .int .i64 seq] w fun e w' => e = .returned (.tuple #[.int .i64 0, .int .i64 1]) ∧ w = w' := by
  go_enter Try.func14, Try.ntmps14
  go_wp2_with (go_at_call 26; refine (find_nil n _).mono ?_; rintro e w' ⟨rfl, rfl⟩)
  go_ret2
  exact ⟨rfl, rfl⟩
theorem none_next : Calls Try.prog 12 #[.pointer none, .int .i64 n] w fun e w' => e = .returned (.int .i64 0) ∧ w = w' := by
  go_enter Try.func12, Try.ntmps12
  go_wp2_with (go_at_call 26; refine (find_nil n _).mono ?_; rintro e w' ⟨rfl, rfl⟩)
  go_ret
  exact ⟨rfl, rfl⟩
theorem none_first : Calls Try.prog 23 #[.pointer none, .int .i64 n] w fun e w' => e = .returned (.int .i64 0) ∧ w = w' := by
  go_enter Try.func23, Try.ntmps23
  go_wp2_with (go_at_call 26; refine (find_nil n _).mono ?_; rintro e w' ⟨rfl, rfl⟩)
  go_ret
  exact ⟨rfl, rfl⟩
theorem none_kept : Calls Try.prog 20 #[.pointer none, .int .i64 n] w fun e w' => e = .returned (.slice none 0 0) ∧ w = w' := by
  go_enter Try.func20, Try.ntmps20
  go_wp2_with (go_at_call 26; refine (find_nil n _).mono ?_; rintro e w' ⟨rfl, rfl⟩)
  go_ret
  exact ⟨rfl, rfl⟩
theorem none_bytes : Calls Try.prog 24 #[.pointer none] w fun e w' => e = .returned (.string ⟨#[]⟩) ∧ Below w.heap.size w w' := by
  go_enter Try.func24, Try.ntmps24
  go_wp2
  go_ret
  exact ⟨rfl, by first | exact Below.refl _ _ | exact below_alloc (Below.refl _ _) _ | exact below_alloc (below_alloc (Below.refl _ _) _) _⟩
end
set_option maxHeartbeats 4000000 in
theorem dedupNone_hand (kd cl sq co : Int) (w : World) (h0 : (Lit.int .i64 kd).wf = true) (h1 : (Lit.int .i64 cl).wf = true) (h2 : (Lit.int .i64 sq).wf = true) (h3 : (Lit.int .i64 co).wf = true) :
    Calls Try.prog 6 #[.agg #[.int .i64 kd, .int .i64 cl, .int .i64 sq, .int .i64 co]] w fun e w' => e = .returned (.bool true) ∧ Below w.heap.size w w' := by
  clear h0 h1 h2 h3
  go_enter Try.func6, Try.ntmps6
  go_wp2_with (first | ((with_reducible refine gate_dst (N := 1) rfl ?_); refine box_event ?hg (N := 1) ?hd (cs := #[.int .i64 kd, .int .i64 cl, .int .i64 sq, .int .i64 co]) (t := 28) ?hr ?_; (case hd => rfl); (case hg => rfl); (case hr => first | (go_simp; done) | (go_simp; rfl)); intro gA hgA w1 hbox hb1; have HB := Aside0.mk hb1; have BK := Aside0.mk hbox; obtain ⟨d0, d1, d2, d3, f0, f1, f2, f3⟩ := box4 hbox; clear hb1 hbox hgA) | (go_at_call 14; refine (none_code cl sq _).mono ?_; rintro e w' ⟨rfl, rfl⟩))
  refine wp_plan [(0, 2, 15), (1, 1, 16), (2, 1, 17), (3, 1, 18), (4, 1, 19), (5, 1, 20), (6, 1, 21), (7, 1, 22), (8, 1, 23), (9, 1, 24), (10, 1, 25), (11, 1, 26), (12, 0, 27), (13, 1, 28), (14, 0, 29), (15, 1, 30), (16, 0, 31), (17, 2, 32), (18, 1, 33), (19, 1, 34), (20, 1, 35), (21, 1, 36), (22, 1, 37), (23, 0, 38), (24, 1, 39), (25, 0, 40), (26, 2, 41), (27, 1, 42), (28, 1, 43), (29, 1, 44), (30, 1, 45), (31, 1, 46), (32, 0, 47), (34, 1, 49), (35, 1, 50), (36, 0, 51), (39, 1, 54), (40, 1, 55), (41, 0, 56), (45, 1, 60), (33, 2, 48), (37, 2, 52), (38, 1, 53), (42, 2, 57), (43, 1, 58), (44, 1, 59), (46, 2, 61), (47, 1, 62), (48, 1, 63), (49, 1, 64), (50, 1, 65), (51, 1, 2)] [] (fun W => W.cell? ⟨gA, 0, none⟩ = some (.int .i64 kd) ∧ W.cell? ⟨gA, 1, none⟩ = some (.int .i64 cl) ∧ W.cell? ⟨gA, 2, none⟩ = some (.int .i64 sq) ∧ W.cell? ⟨gA, 3, none⟩ = some (.int .i64 co)) (by kernel_rfl) rfl (by kernel_rfl) (fun _ t _ _ _ h => by cases t <;> exact h) ⟨d0, d1, d2, d3⟩ (fun hS => ?_)
  clear d0 d1 d2 d3 f0 f1 f2 f3
  have n0 := Aside0.mk (blk_drewN BK.out 1)
  have n1 := Aside0.mk (pw_below_drewN HB.out 1)
  clear BK HB
  have BK := n0
  have HB := n1
  clear n0 n1
  repeat (first | (refine RP.take (v := ?_) (a' := ?_) rfl rfl (by assumption) (Or.inl ⟨by rfl, ?_⟩) ?_ ?_; rotate_left; (focus (rintro w' ⟨hS0, hS1, hS2, hS3⟩; go_simp; with_reducible rfl)); rotate_left; (focus (simp only [Act.put, List.setIfInBounds_toArray, List.set_cons_zero, List.set_cons_succ, i64_w, i32_w]; rfl))) | (refine RP.pure (v := ?_) (a' := ?_) rfl rfl (Or.inl ⟨by rfl, ?_⟩) ?_ ?_; rotate_left; (focus (intro w'; go_simp; with_reducible rfl)); rotate_left; (focus (simp only [Act.put, List.setIfInBounds_toArray, List.set_cons_zero, List.set_cons_succ, i64_w, i32_w]; rfl))))
  refine RP.one rfl rfl (fun K hK => ?_)
  refine goes_ Try.func9 (by kernel_rfl) rfl #[] (by rfl) rfl rfl (by (try simp only [List.map_toArray, List.map_cons, List.map_nil]); first | done | rfl) ?_
  (with_reducible refine (awake_calls _).mono ?_)
  rintro e w2 ⟨rfl, hb⟩
  refine ⟨_, rfl, ?_⟩
  have n0 := Aside0.mk (blk_below BK.out hb)
  have n1 := Aside0.mk (below_step HB.out hb)
  clear BK HB hb
  have BK := n0
  have HB := n1
  clear n0 n1
  refine hK.out _ _ ⟨(blk_cell BK.out 0).trans rfl, (blk_cell BK.out 1).trans rfl, (blk_cell BK.out 2).trans rfl, (blk_cell BK.out 3).trans rfl⟩ (fun hS => ?_)
  clear hK K
  refine RP.norm (a' := ?_) ?_ ?_
  rotate_left
  · show Act.put _ (some 15) _ = _
    simp only [Act.put, List.setIfInBounds_toArray, List.set_cons_zero, List.set_cons_succ, i64_w, i32_w]
    rfl
  repeat (first | (refine RP.take (v := ?_) (a' := ?_) rfl rfl (by assumption) (Or.inl ⟨by rfl, ?_⟩) ?_ ?_; rotate_left; (focus (rintro w' ⟨hS0, hS1, hS2, hS3⟩; go_simp; with_reducible rfl)); rotate_left; (focus (simp only [Act.put, List.setIfInBounds_toArray, List.set_cons_zero, List.set_cons_succ, i64_w, i32_w]; rfl))) | (refine RP.pure (v := ?_) (a' := ?_) rfl rfl (Or.inl ⟨by rfl, ?_⟩) ?_ ?_; rotate_left; (focus (intro w'; go_simp; with_reducible rfl)); rotate_left; (focus (simp only [Act.put, List.setIfInBounds_toArray, List.set_cons_zero, List.set_cons_succ, i64_w, i32_w]; rfl))))
  refine RP.one rfl rfl (fun K hK => ?_)
  refine goes_ Try.func13 (by kernel_rfl) rfl #[.pointer none, .int .i64 cl, .int .i64 sq, .int .i64 co] (by rfl) rfl rfl (by (try simp only [List.map_toArray, List.map_cons, List.map_nil]); first | done | rfl) ?_
  (with_reducible refine (none_put cl sq co _).mono ?_)
  rintro e w2 ⟨rfl, rfl⟩
  refine ⟨_, rfl, ?_⟩
  refine hK.out _ _ (by assumption) (fun hS => ?_)
  clear hK K
  refine RP.norm (a' := ?_) ?_ ?_
  rotate_left
  · show Act.put _ (some 32) _ = _
    simp only [Act.put, List.setIfInBounds_toArray, List.set_cons_zero, List.set_cons_succ, i64_w, i32_w]
    rfl
  repeat (first | (refine RP.take (v := ?_) (a' := ?_) rfl rfl (by assumption) (Or.inl ⟨by rfl, ?_⟩) ?_ ?_; rotate_left; (focus (rintro w' ⟨hS0, hS1, hS2, hS3⟩; go_simp; with_reducible rfl)); rotate_left; (focus (simp only [Act.put, List.setIfInBounds_toArray, List.set_cons_zero, List.set_cons_succ, i64_w, i32_w]; rfl))) | (refine RP.pure (v := ?_) (a' := ?_) rfl rfl (Or.inl ⟨by rfl, ?_⟩) ?_ ?_; rotate_left; (focus (intro w'; go_simp; with_reducible rfl)); rotate_left; (focus (simp only [Act.put, List.setIfInBounds_toArray, List.set_cons_zero, List.set_cons_succ, i64_w, i32_w]; rfl))))
  refine RP.one rfl rfl (fun K hK => ?_)
  refine goes_ Try.func11 (by kernel_rfl) rfl #[.pointer none, .int .i64 cl, .int .i64 sq] (by rfl) rfl rfl (by (try simp only [List.map_toArray, List.map_cons, List.map_nil]); first | done | rfl) ?_
  (with_reducible refine (none_got cl sq _).mono ?_)
  rintro e w2 ⟨rfl, rfl⟩
  refine ⟨_, rfl, ?_⟩
  refine hK.out _ _ (by assumption) (fun hS => ?_)
  clear hK K
  refine RP.norm (a' := ?_) ?_ ?_
  rotate_left
  · show Act.put _ (some 41) _ = _
    simp only [Act.put, List.setIfInBounds_toArray, List.set_cons_zero, List.set_cons_succ, i64_w, i32_w]
    rfl
  repeat (first | (refine RP.take (v := ?_) (a' := ?_) rfl rfl (by assumption) (Or.inl ⟨by rfl, ?_⟩) ?_ ?_; rotate_left; (focus (rintro w' ⟨hS0, hS1, hS2, hS3⟩; go_simp; with_reducible rfl)); rotate_left; (focus (simp only [Act.put, List.setIfInBounds_toArray, List.set_cons_zero, List.set_cons_succ, i64_w, i32_w]; rfl))) | (refine RP.pure (v := ?_) (a' := ?_) rfl rfl (Or.inl ⟨by rfl, ?_⟩) ?_ ?_; rotate_left; (focus (intro w'; go_simp; with_reducible rfl)); rotate_left; (focus (simp only [Act.put, List.setIfInBounds_toArray, List.set_cons_zero, List.set_cons_succ, i64_w, i32_w]; rfl))))
  refine RP.one rfl rfl (fun K hK => ?_)
  refine goes_ Try.func12 (by kernel_rfl) rfl #[.pointer none, .int .i64 cl] (by rfl) rfl rfl (by (try simp only [List.map_toArray, List.map_cons, List.map_nil]); first | done | rfl) ?_
  (with_reducible refine (none_next cl _).mono ?_)
  rintro e w2 ⟨rfl, rfl⟩
  refine ⟨_, rfl, ?_⟩
  refine hK.out _ _ (by assumption) (fun hS => ?_)
  clear hK K
  refine RP.norm (a' := ?_) ?_ ?_
  rotate_left
  · show Act.put _ (some 48) _ = _
    simp only [Act.put, List.setIfInBounds_toArray, List.set_cons_zero, List.set_cons_succ, i64_w, i32_w]
    rfl
  repeat (first | (refine RP.take (v := ?_) (a' := ?_) rfl rfl (by assumption) (Or.inl ⟨by rfl, ?_⟩) ?_ ?_; rotate_left; (focus (rintro w' ⟨hS0, hS1, hS2, hS3⟩; go_simp; with_reducible rfl)); rotate_left; (focus (simp only [Act.put, List.setIfInBounds_toArray, List.set_cons_zero, List.set_cons_succ, i64_w, i32_w]; rfl))) | (refine RP.pure (v := ?_) (a' := ?_) rfl rfl (Or.inl ⟨by rfl, ?_⟩) ?_ ?_; rotate_left; (focus (intro w'; go_simp; with_reducible rfl)); rotate_left; (focus (simp only [Act.put, List.setIfInBounds_toArray, List.set_cons_zero, List.set_cons_succ, i64_w, i32_w]; rfl))))
  refine RP.one rfl rfl (fun K hK => ?_)
  refine goes_ Try.func23 (by kernel_rfl) rfl #[.pointer none, .int .i64 cl] (by rfl) rfl rfl (by (try simp only [List.map_toArray, List.map_cons, List.map_nil]); first | done | rfl) ?_
  (with_reducible refine (none_first cl _).mono ?_)
  rintro e w2 ⟨rfl, rfl⟩
  refine ⟨_, rfl, ?_⟩
  refine hK.out _ _ (by assumption) (fun hS => ?_)
  clear hK K
  refine RP.norm (a' := ?_) ?_ ?_
  rotate_left
  · show Act.put _ (some 52) _ = _
    simp only [Act.put, List.setIfInBounds_toArray, List.set_cons_zero, List.set_cons_succ, i64_w, i32_w]
    rfl
  repeat (first | (refine RP.take (v := ?_) (a' := ?_) rfl rfl (by assumption) (Or.inl ⟨by rfl, ?_⟩) ?_ ?_; rotate_left; (focus (rintro w' ⟨hS0, hS1, hS2, hS3⟩; go_simp; with_reducible rfl)); rotate_left; (focus (simp only [Act.put, List.setIfInBounds_toArray, List.set_cons_zero, List.set_cons_succ, i64_w, i32_w]; rfl))) | (refine RP.pure (v := ?_) (a' := ?_) rfl rfl (Or.inl ⟨by rfl, ?_⟩) ?_ ?_; rotate_left; (focus (intro w'; go_simp; with_reducible rfl)); rotate_left; (focus (simp only [Act.put, List.setIfInBounds_toArray, List.set_cons_zero, List.set_cons_succ, i64_w, i32_w]; rfl))))
  refine RP.one rfl rfl (fun K hK => ?_)
  refine goes_ Try.func20 (by kernel_rfl) rfl #[.pointer none, .int .i64 cl] (by rfl) rfl rfl (by (try simp only [List.map_toArray, List.map_cons, List.map_nil]); first | done | rfl) ?_
  (with_reducible refine (none_kept cl _).mono ?_)
  rintro e w2 ⟨rfl, rfl⟩
  refine ⟨_, rfl, ?_⟩
  refine hK.out _ _ (by assumption) (fun hS => ?_)
  clear hK K
  refine RP.norm (a' := ?_) ?_ ?_
  rotate_left
  · show Act.put _ (some 57) _ = _
    simp only [Act.put, List.setIfInBounds_toArray, List.set_cons_zero, List.set_cons_succ, i64_w, i32_w]
    rfl
  repeat (first | (refine RP.take (v := ?_) (a' := ?_) rfl rfl (by assumption) (Or.inl ⟨by rfl, ?_⟩) ?_ ?_; rotate_left; (focus (rintro w' ⟨hS0, hS1, hS2, hS3⟩; go_simp; with_reducible rfl)); rotate_left; (focus (simp only [Act.put, List.setIfInBounds_toArray, List.set_cons_zero, List.set_cons_succ, i64_w, i32_w]; rfl))) | (refine RP.pure (v := ?_) (a' := ?_) rfl rfl (Or.inl ⟨by rfl, ?_⟩) ?_ ?_; rotate_left; (focus (intro w'; go_simp; with_reducible rfl)); rotate_left; (focus (simp only [Act.put, List.setIfInBounds_toArray, List.set_cons_zero, List.set_cons_succ, i64_w, i32_w]; rfl))))
  refine RP.one rfl rfl (fun K hK => ?_)
  refine goes_ Try.func24 (by kernel_rfl) rfl #[.pointer none] (by rfl) rfl rfl (by (try simp only [List.map_toArray, List.map_cons, List.map_nil]); first | done | rfl) ?_
  (with_reducible refine (none_bytes _).mono ?_)
  rintro e w2 ⟨rfl, hb⟩
  refine ⟨_, rfl, ?_⟩
  have n0 := Aside0.mk (blk_below BK.out hb)
  have n1 := Aside0.mk (below_step HB.out hb)
  clear BK HB hb
  have BK := n0
  have HB := n1
  clear n0 n1
  refine hK.out _ _ ⟨(blk_cell BK.out 0).trans rfl, (blk_cell BK.out 1).trans rfl, (blk_cell BK.out 2).trans rfl, (blk_cell BK.out 3).trans rfl⟩ (fun hS => ?_)
  clear hK K
  refine RP.norm (a' := ?_) ?_ ?_
  rotate_left
  · show Act.put _ (some 61) _ = _
    simp only [Act.put, List.setIfInBounds_toArray, List.set_cons_zero, List.set_cons_succ, i64_w, i32_w]
    rfl
  repeat (first | (refine RP.take (v := ?_) (a' := ?_) rfl rfl (by assumption) (Or.inl ⟨by rfl, ?_⟩) ?_ ?_; rotate_left; (focus (rintro w' ⟨hS0, hS1, hS2, hS3⟩; go_simp; with_reducible rfl)); rotate_left; (focus (simp only [Act.put, List.setIfInBounds_toArray, List.set_cons_zero, List.set_cons_succ, i64_w, i32_w]; rfl))) | (refine RP.pure (v := ?_) (a' := ?_) rfl rfl (Or.inl ⟨by rfl, ?_⟩) ?_ ?_; rotate_left; (focus (intro w'; go_simp; with_reducible rfl)); rotate_left; (focus (simp only [Act.put, List.setIfInBounds_toArray, List.set_cons_zero, List.set_cons_succ, i64_w, i32_w]; rfl))))
  refine RP.nil ?_
  go_wp2
  go_ret
  exact ⟨ret_bool (by first | decide | simp [wrap64]), HB.out⟩

end Go.Proofs.Ytfmlamnkpoloaaa.Q

/- Arguments of whatever depth (slices of texts, of structs, structs of slices): what the row reads is a row of the printed kinds. -/
namespace Go.Proofs.Ytfmlamnkpoloaaa.Q
open Go.RowKit Go.Proofs.YtfmlamnkpoloaaaW.PrintWords Go.Proofs.YtfmlamnkpoloaaaW.PrintLast Go.Proofs.YtfmlamnkpoloaaaW.PrintMore
set_option linter.unusedVariables false
set_option linter.unusedSimpArgs false

section
variable {H : Type} (enc : TypeId × Value → H) (P : Program) (W : World)

/-- What is read at type t is of the kind d, and good. -/
def Opens {α : Type} (t : TypeId) (d : Kd α) (G : α → Prop) : Prop :=
  P.cellsOf t = d.sz ∧ ∀ (fuel : Nat) (cs : List Value) (x : DataW H × List MemPlace), DataW.trod enc P W 0 (fun _ => true) true fuel t cs = some x → (∀ n ∈ x.1.weights P t, n ≤ reachBytes) → ∃ y, d.K W y cs ∧ G y
/-- What is read at types in line is of the kind d, and good. -/
def OpensSeq {α : Type} (ts : List TypeId) (d : Kd α) (G : α → Prop) : Prop :=
  (ts.map P.cellsOf).sum = d.sz ∧ ∀ (fuel : Nat) (cs : List Value) (xs : List (DataW H × List MemPlace)), cs.length = (ts.map P.cellsOf).sum → xs.length = ts.length →
    (∀ i t, ts[i]? = some t → DataW.trod enc P W 0 (fun _ => true) true fuel t ((cs.drop ((ts.take i).map P.cellsOf).sum).take (P.cellsOf t)) = xs[i]?) →
    (∀ n ∈ DataW.weightsEach P ts (xs.map (·.1)), n ≤ reachBytes) → ∃ y, d.K W y cs ∧ G y
variable {enc P W}

theorem Opens.int {t : TypeId} {k : IntKind} (ht : P.underlying t = some (.int k)) (hc : P.cellsOf t = 1) : Opens enc P W t (Kd.int k) (fun n => (Lit.int k n).wf = true) := by
  refine ⟨hc, fun fuel cs x h _ => ?_⟩
  obtain ⟨n, rfl, _, hw⟩ := DataW.trod_int ht h
  exact ⟨n, rfl, hw⟩
theorem Opens.bool {t : TypeId} (ht : P.underlying t = some .bool) (hc : P.cellsOf t = 1) : Opens enc P W t Kd.bool (fun _ => True) := by
  refine ⟨hc, fun fuel cs x h _ => ?_⟩
  cases fuel with
  | zero => simp [DataW.trod] at h
  | succ n =>
    unfold DataW.trod at h
    rw [ht] at h
    split at h <;> first | exact ⟨_, rfl, trivial⟩ | simp_all
theorem Opens.string {t : TypeId} (ht : P.underlying t = some .string) (hc : P.cellsOf t = 1) : Opens enc P W t Kd.string (fun s => s.size ≤ 140737488351232) := by
  refine ⟨hc, fun fuel cs x h hw => ?_⟩
  obtain ⟨s, rfl, rfl, _⟩ := DataW.trod_string ht h
  refine ⟨s, rfl, ?_⟩
  have := hw s.data.toList.length (by simp [DataW.weights])
  simpa [reachBytes, Array.length_toList] using this
theorem weights_all {e : TypeId} {ds : List (DataW H)} {d : DataW H} (h : d ∈ ds) : ∀ n ∈ d.weights P e, n ∈ DataW.weightsAll P e ds := by
  induction ds with
  | nil => cases h
  | cons d' ds ih =>
    intro n hn
    rw [DataW.weightsAll, List.mem_append]
    rcases List.mem_cons.1 h with rfl | h
    · exact .inl hn
    · exact .inr (ih h n hn)
open Classical in
theorem choose_list {α : Type} (z : α) (R : Nat → α → Prop) (n : Nat) (h : ∀ i, i < n → ∃ y, R i y) : ∃ l : List α, l.length = n ∧ ∀ i (hi : i < n) (hl : i < l.length), R i l[i] := by
  refine ⟨(List.range n).map fun i => if h' : ∃ y, R i y then Classical.choose h' else z, by simp, fun i hi hl => ?_⟩
  have he := h i hi
  simp only [List.getElem_map, List.getElem_range, dif_pos he]
  exact Classical.choose_spec he
theorem Opens.slice {α : Type} (z : α) {t e : TypeId} {d : Kd α} {G : α → Prop} (bytes : Nat) (ht : P.underlying t = some (.slice e)) (hc : P.cellsOf t = 1) (hb : P.bytesOf e = bytes) (h : Opens enc P W e d G) :
    Opens enc P W t (Kd.slice e d) (fun xs => xs.length * bytes ≤ 140737488351232 ∧ xs.length ≤ 9223372036854775807 ∧ ∀ x ∈ xs, G x) := by
  refine ⟨hc, fun fuel cs x hx hw => ?_⟩
  rcases Go.Deep.open_slice ht hx with ⟨rfl, rfl⟩ | ⟨a, len, cap, m, n, D, Pl, rfl, _, hlc, hcm, hm, rfl, hel⟩
  · exact ⟨[], ⟨none, 0, rfl, Nat.le_refl _, Kd.C_nil d W⟩, by simp, by simp, fun x hx => by cases hx⟩
  · have hlm : len ≤ m := by rw [hm]; split <;> omega
    have hwt : DataW.weights P t (.slice ((List.range len).map D) ((List.range (m - len)).map fun j => D (len + j))) =
        (((List.range len).map D).length + ((List.range (m - len)).map fun j => D (len + j)).length) * P.bytesOf e :: (DataW.weightsAll P e ((List.range len).map D) ++ DataW.weightsAll P e ((List.range (m - len)).map fun j => D (len + j))) := by
      rw [DataW.weights]
      simp only [ht]
    have hel' : ∀ i, i < len → ∃ y, (∃ cs', W.cells? 0 (a.add (i * P.cellsOf e)) (P.cellsOf e) = some cs' ∧ d.K W y cs') ∧ G y := by
      intro i hi
      obtain ⟨cs', h1, h2⟩ := hel i (by omega)
      obtain ⟨y, hy, hg⟩ := h.2 n cs' _ h2 (fun n hn => hw n (by
        rw [hwt]
        exact List.mem_cons_of_mem _ (List.mem_append_left _ (weights_all (List.mem_map.2 ⟨i, List.mem_range.2 hi, rfl⟩) n hn))))
      exact ⟨y, ⟨cs', h1, hy⟩, hg⟩
    obtain ⟨l, hll, hl⟩ := choose_list z _ len hel'
    have hb1 := hw _ (by rw [hwt]; exact List.mem_cons_self)
    have hle : len * bytes ≤ 140737488351232 := by
      simp only [List.length_map, List.length_range, hb, reachBytes] at hb1
      exact Nat.le_trans (Nat.mul_le_mul_right _ (by omega)) hb1
    have hmx : len ≤ 9223372036854775807 := by
      simp only [maxLen] at hcm
      omega
    refine ⟨l, ⟨some a, cap, by rw [hll], by omega, by rw [hll], by omega, fun _ => ⟨a, rfl, fun j p hj => ?_⟩⟩, by rw [hll]; exact hle, by omega, fun x hx => ?_⟩
    · obtain ⟨hjl, rfl⟩ := List.getElem?_eq_some_iff.1 hj
      obtain ⟨⟨cs', h1, hK⟩, _⟩ := hl j (by omega) hjl
      obtain ⟨_, hcl, hcell⟩ := World.cells?_some h1
      refine ⟨cs', by rw [hcl, h.1], hK, fun i u hu => ?_⟩
      have hi : i < P.cellsOf e := by
        have := (List.getElem?_eq_some_iff.1 hu).1
        omega
      have := hcell i hi
      rw [hu, add_add, h.1] at this
      exact this
    · obtain ⟨j, hj, rfl⟩ := List.getElem_of_mem hx
      exact (hl j (by omega) hj).2
theorem OpensSeq.one {α : Type} {t : TypeId} {d : Kd α} {G : α → Prop} (h : Opens enc P W t d G) : OpensSeq enc P W [t] d G := by
  refine ⟨by simp [h.1], fun fuel cs xs hl hx hr hw => ?_⟩
  have hr0 := hr 0 t rfl
  simp only [List.take_zero, List.map_nil, List.sum_nil, List.drop_zero] at hr0
  have hc : cs.length = P.cellsOf t := by simpa using hl
  rw [List.take_of_length_le (by omega)] at hr0
  match xs, hx with
  | [x], _ =>
    exact h.2 fuel cs x hr0 (fun n hn => hw n (by simp [DataW.weightsEach, hn]))
theorem OpensSeq.cons {α β : Type} {t : TypeId} {ts : List TypeId} {d : Kd α} {d' : Kd β} {G : α → Prop} {G' : β → Prop} (h : Opens enc P W t d G) (h' : OpensSeq enc P W ts d' G') :
    OpensSeq enc P W (t :: ts) (Kd.pair d d') (fun y => G y.1 ∧ G' y.2) := by
  refine ⟨by simp [Kd.pair, h.1, h'.1], fun fuel cs xs hl hx hr hw => ?_⟩
  match xs, hx with
  | x :: xs, hx =>
    have hr0 := hr 0 t rfl
    simp only [List.take_zero, List.map_nil, List.sum_nil, List.drop_zero] at hr0
    obtain ⟨y, hy, hg⟩ := h.2 fuel _ x hr0 (fun n hn => hw n (by simp [DataW.weightsEach, hn]))
    have hl2 : (cs.drop (P.cellsOf t)).length = (ts.map P.cellsOf).sum := by
      rw [List.length_drop, hl, List.map_cons, List.sum_cons]
      omega
    obtain ⟨y', hy', hg'⟩ := h'.2 fuel (cs.drop (P.cellsOf t)) xs hl2 (by simpa using hx) (fun i t' ht' => by
      have := hr (i + 1) t' (by simpa using ht')
      simp only [List.take_succ_cons, List.map_cons, List.sum_cons, List.getElem?_cons_succ] at this
      rw [List.drop_drop]
      exact this) (fun n hn => hw n (by simp only [List.map_cons, DataW.weightsEach, List.mem_append]; exact .inr hn))
    exact ⟨(y, y'), ⟨_, _, (List.take_append_drop (P.cellsOf t) cs).symm, hy, hy'⟩, hg, hg'⟩
theorem Opens.struct {α β : Type} {t : TypeId} {fs : Array Field} (ts : List TypeId) {d : Kd α} {G : α → Prop} (f : β → α) (g : α → β) (hfg : ∀ a, f (g a) = a) (ht : P.underlying t = some (.struct fs)) (hts : fs.toList.map (·.type) = ts)
    (hoff0 : fs.toList.map (·.offset) = (List.range fs.size).map fun i => ((ts.take i).map P.cellsOf).sum) (hc : P.cellsOf t = (ts.map P.cellsOf).sum) (h : OpensSeq enc P W ts d G) : Opens enc P W t (Kd.iso d f) (fun y => G (f y)) := by
  have hoff : ∀ i fd, fs[i]? = some fd → fd.offset = ((ts.take i).map P.cellsOf).sum := by
    intro i fd hi
    have h1 : (fs.toList.map (·.offset))[i]? = some fd.offset := by rw [List.getElem?_map, Array.getElem?_toList, hi]; rfl
    have hlt : i < fs.size := (Array.getElem?_eq_some_iff.1 hi).1
    rw [hoff0, List.getElem?_map, List.getElem?_range hlt] at h1
    simpa using h1.symm
  refine ⟨hc.trans h.1, fun fuel cs x hx hw => ?_⟩
  obtain ⟨xs, n, rfl, rfl, hcl, hxl, hfd⟩ := DataW.trod_struct ht hx
  have hwt : DataW.weights P t (.agg (xs.map (·.1)) : DataW H) = DataW.weightsEach P ts (xs.map (·.1)) := by
    rw [DataW.weights]
    simp only [ht, hts]
  obtain ⟨y, hy, hg⟩ := h.2 n cs xs (hcl.trans hc) (by rw [hxl, ← hts]; simp) (fun i t' ht' => by
    rw [← hts, List.getElem?_map, Option.map_eq_some_iff] at ht'
    obtain ⟨fd, hfi, rfl⟩ := ht'
    rw [Array.getElem?_toList] at hfi
    rw [← hoff i fd hfi]
    exact hfd i fd hfi) (fun n hn => hw n (by rw [hwt]; exact hn))
  exact ⟨g y, by show d.K W (f (g y)) cs; rw [hfg]; exact hy, by show G (f (g y)); rw [hfg]; exact hg⟩
/-- The weights of all arguments, and of one. -/
theorem weights_each {ts : List TypeId} : ∀ {ds : List (DataW H)} {j : Nat} {t : TypeId} {d : DataW H}, ts[j]? = some t → ds[j]? = some d → ∀ n ∈ d.weights P t, n ∈ DataW.weightsEach P ts ds := by
  induction ts with
  | nil => intro ds j t d h; simp at h
  | cons t' ts ih =>
    intro ds j t d h h' n hn
    cases ds with
    | nil => simp at h'
    | cons d' ds =>
      rw [DataW.weightsEach, List.mem_append]
      cases j with
      | zero =>
        simp only [List.getElem?_cons_zero, Option.some.injEq] at h h'
        subst h h'
        exact .inl hn
      | succ j => exact .inr (ih (by simpa using h) (by simpa using h') n hn)
end

end Go.Proofs.Ytfmlamnkpoloaaa.Q
