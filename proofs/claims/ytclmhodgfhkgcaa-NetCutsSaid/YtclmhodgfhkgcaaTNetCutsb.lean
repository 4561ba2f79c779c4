/- Texts of this session laid together (merge.py): YtclmhodgfhkgcaaNUp, YtclmhodgfhkgcaaNTake, YtclmhodgfhkgcaaNDrop, YtclmhodgfhkgcaaNDeliver, YtclmhodgfhkgcaaNSend, YtclmhodgfhkgcaaNSends, YtclmhodgfhkgcaaNCut, YtclmhodgfhkgcaaNAwake. -/
import Derived.Deep.RegionLawGrows
import Derived.Test.YtclmhodgfhkgcaaTNetCutsa
/- The contract of the net's Up. -/
namespace Go.Proofs.Ytclmhodgfhkgcaa.Q
open Go.RowKit Go.Proofs.YtclmhodgfhkgcaaW.PrintWords Go.Proofs.YtclmhodgfhkgcaaW.PrintLast Go.Proofs.YtclmhodgfhkgcaaW.PrintMore
set_option linter.unusedVariables false
set_option linter.unusedSimpArgs false

/-- Nodes in bounds. -/
def Few (X : Nt) : Prop := 1 ≤ X.nodes ∧ X.nodes ≤ 16
def isCut (X : Nt) (p q : Int) : Bool := X.cut (min p q) (max p q)
def upB (X : Nt) (p q : Int) : Bool := decide (Two X p q) && !isCut X p q
theorem Two.nd {X : Nt} {p q : Int} (h : Two X p q) (hf : Few X) : Nd (min p q) ∧ Nd (max p q) := by
  unfold Two at h
  unfold Few at hf
  unfold Nd
  omega
set_option maxHeartbeats 2000000 in
theorem Up_calls (ok : Nat → Prop) (b c n : Nat) (X : Nt) (p q : Int) (w : World) (hT : NetAt ok w b c n X) (hF : Few X) :
    Calls Try.prog 18 #[.pointer (some ⟨b, 0, none⟩), .int .i64 p, .int .i64 q] w fun e w' => e = .returned (.bool (upB X p q)) ∧ Chg (fun _ => False) w w' := by
  have hlt := hT.lt
  have HT := Aside0.mk hT
  by_cases h2 : Two X p q
  · have HD := Aside0.mk (decide_eq_true h2)
    obtain ⟨n1, n2⟩ := h2.nd hF
    have E := Aside0.mk (show upB X p q = !isCut X p q by unfold upB; rw [decide_eq_true h2]; rfl)
    have EC := Aside0.mk (show isCut X p q = X.cut (min p q) (max p q) from rfl)
    clear hT hF h2
    have HB := Aside0.mk (fun w0 h => between_calls ok b c n X p q w0 h)
    rw [HD.out] at HB
    generalize min p q = mn at *
    generalize max p q = mx at *
    go_enter Try.func18, Try.ntmps18
    go_wp2_with (go_at_call 25; refine (HB.out _ HT.out).mono ?_; rintro e w1 ⟨rfl, hc⟩; have HC := Aside0.mk hc; have HT1 := Aside0.mk (HT.out.chg hc (fun h => h) (fun h => h) (fun _ _ h => h)); clear hc)
    have hT2 := (HT1.out.chg (Chg.alloc (Chg.refl (fun _ => False) _) _ : Chg (fun _ => False) w1 (w1.alloc (.cells #[.int .i64 mn, .int .i64 mx] 60 (0, 0)))) (fun h => h) (fun h => h) (fun _ _ h => h))
    obtain ⟨d0, d1, -, -⟩ := box2 (blk_new w1 (.cells #[.int .i64 mn, .int .i64 mx] 60 (0, 0)))
    have hm := hT2.open.2.2.1
    have hcu := hT2.cuts
    have HC2 := Aside0.mk ((HC.out.alloc (.cells #[.int .i64 mn, .int .i64 mx] 60 (0, 0))).drewN 1)
    clear hT2
    have hlk : ∀ W, CutAt W c n X.cut → (Instr.lookup 56 (.map (some c)) (KL mn mx) false).run Try.prog W = .ok (.int .i64 (if X.cut mn mx then 1 else 0)) W := fun W h => h.look n1 n2
    have HE := Aside0.mk (E.out.trans (by rw [EC.out]))
    clear E EC
    cases hz : X.cut mn mx
    all_goals
      rw [hz] at HE
      simp only [hz, Bool.false_eq_true, if_false, if_true] at hlk
      have HLK := Aside0.mk hlk
      clear hlk
      refine wp_plan [(0, 0, 18), (1, 0, 19), (2, 0, 20), (3, 0, 21), (4, 0, 22), (5, 0, 23), (6, 0, 24), (7, 0, 25), (8, 0, 26), (9, 0, 27), (10, 0, 6)] [] (fun W => W.cell? ⟨b, 2, none⟩ = some (.map (some c)) ∧ W.cell? ⟨w1.heap.size, 0, none⟩ = some (.int .i64 mn) ∧ W.cell? ⟨w1.heap.size, 1, none⟩ = some (.int .i64 mx) ∧ CutAt W c n X.cut) (by kernel_rfl) rfl (by kernel_rfl) (fun _ t _ _ _ h => by cases t <;> exact h) ⟨hm, d0, d1, hcu⟩ (fun hS => ?_)
      repeat (refine RP.take (v := ?_) (a' := ?_) rfl rfl (by assumption) (Or.inl ⟨by rfl, ?_⟩) ?_ ?_; rotate_left; (focus (rintro w' ⟨hS0, hS1, hS2, hS3⟩; have hl := HLK.out _ hS3; go_simp; with_reducible rfl)); rotate_left; (focus (simp only [Act.put, List.setIfInBounds_toArray, List.set_cons_zero, List.set_cons_succ, i64_w, i32_w]; rfl)))
      refine RP.nil ?_
      go_wp2
      go_ret
      exact ⟨by rw [HE.out]; rfl, HC2.out⟩
  · have HD := Aside0.mk (decide_eq_false h2)
    have E := Aside0.mk (show upB X p q = false by unfold upB; rw [decide_eq_false h2]; rfl)
    clear hT hF h2
    have HB := Aside0.mk (fun w0 h => between_calls ok b c n X p q w0 h)
    rw [HD.out] at HB
    generalize min p q = mn at *
    generalize max p q = mx at *
    go_enter Try.func18, Try.ntmps18
    go_wp2_with (go_at_call 25; refine (HB.out _ HT.out).mono ?_; rintro e w1 ⟨rfl, hc⟩; have HC := Aside0.mk hc; clear hc)
    have HC2 := Aside0.mk ((HC.out.alloc (.cells #[.int .i64 mn, .int .i64 mx] 60 (0, 0))).drewN 1)
    refine wp_plan [(0, 1, 18), (1, 1, 19), (2, 1, 20), (3, 1, 21), (4, 1, 22), (5, 1, 23), (6, 1, 24), (7, 1, 25), (8, 1, 26), (9, 1, 27), (10, 1, 6)] [] (fun W => True) (by kernel_rfl) rfl (by kernel_rfl) (fun _ t _ _ _ h => by cases t <;> exact h) trivial (fun hS => ?_)
    repeat (first
      | (refine RP.pure (v := undef) (a' := ?_) rfl rfl (Or.inr ⟨by rfl, rfl⟩) ?_ ?_; rotate_left; (focus (simp only [Act.put, List.setIfInBounds_toArray, List.set_cons_zero, List.set_cons_succ, i64_w, i32_w]; rfl)))
      | (refine RP.pure (v := ?_) (a' := ?_) rfl rfl (Or.inl ⟨by rfl, ?_⟩) ?_ ?_; rotate_left; (focus (intro w'; go_simp; with_reducible rfl)); rotate_left; (focus (simp only [Act.put, List.setIfInBounds_toArray, List.set_cons_zero, List.set_cons_succ, i64_w, i32_w]; rfl))))
    refine RP.nil ?_
    go_wp2
    go_ret
    exact ⟨by rw [E.out]; rfl, HC2.out⟩

end Go.Proofs.Ytclmhodgfhkgcaa.Q

/- The contract of the net's take. -/
namespace Go.Proofs.Ytclmhodgfhkgcaa.Q
open Go.RowKit Go.Proofs.YtclmhodgfhkgcaaW.PrintWords Go.Proofs.YtclmhodgfhkgcaaW.PrintLast Go.Proofs.YtclmhodgfhkgcaaW.PrintMore
set_option linter.unusedVariables false
set_option linter.unusedSimpArgs false

abbrev kM : Kd Msg := k30
theorem infoM : (Try.prog.info? 30).map (fun i => (i.zero, i.size, i.bytes)) = some (some (.agg #[.int .i64 0, .int .i64 0, .string ⟨#[]⟩]), 3, 32) := by kernel_rfl
theorem Chg.grownN {S : Nat → Prop} {a b c : World} {row : Option Nat} (h : Chg S a b) (hg : b.grownBy c row) (hr : ∀ k, row = some k → a.heap.size ≤ k) : Chg S a c := h.grown hg (fun k e => .inr (hr k e))
theorem Chg.cell {w w' : World} (h : Chg (fun _ => False) w w') {p : Addr} (hp : p.block < w.heap.size) : w'.cell? p = w.cell? p := World.cell?_of_block (w := w) (h.keep p.block hp (fun h => h))
theorem Chg.frozen {w w' : World} (h : Chg (fun _ => False) w w') {p : Addr} (hp : p.block < w.heap.size) : w'.frozen? p = w.frozen? p := World.frozen?_of_block (w := w) (h.keep p.block hp (fun h => h))
theorem RowM.cut {w : World} {ok : Nat → Prop} {A : Option Addr} {n c j : Nat} {xs : List Msg} (h : RowM w ok (.slice A n c) xs) (hj : j ≤ n) : ∃ A2, (∀ W, (Instr.sliceAt 22 (.slice A n c) (some (.int .i64 (j : Int))) Option.none Option.none).run Try.prog W = .ok (.slice A2 (n - j) (c - j)) W) ∧ RowM w ok (.slice A2 (n - j) (c - j)) (xs.drop j) := by
  obtain ⟨hx, hle, hF⟩ := Kd.V_at h
  subst hx
  have hu : Try.prog.underlying 22 = some (.slice (Try.prog.elem 22)) := by kernel_rfl
  have hd : (xs.drop j).length = xs.length - j := by simp
  have hv := Kd.V_mk (e := 30) (base := 0) (c := c - j) (by omega) (Kd.F_cut hF hj hle)
  rw [hd] at hv
  have h1 : kM.sz = 3 := rfl
  rw [h1] at hv
  refine ⟨_, fun W => ?_, hv⟩
  have hs : (sizeOf (Try.prog.elem 22)).run Try.prog W = .ok 3 W := by kernel_rfl
  rw [run_sliceAt_slice (P := Try.prog) (w := W) 22 _ _ _ _ hu, run_slice_l (P := Try.prog) (w := W) 22 A xs.length c hu .i64 (j : Int) (by omega) (by omega), hs]
  simp only [Result.andThen, sliced, Int.toNat_natCast]
theorem RowM.head {w : World} {ok : Nat → Prop} {A : Option Addr} {n c j : Nat} {xs : List Msg} (h : RowM w ok (.slice A n c) xs) (hj : j ≤ n) : (∀ W, (Instr.sliceAt 22 (.slice A n c) Option.none (some (.int .i64 (j : Int))) Option.none).run Try.prog W = .ok (.slice A j c) W) ∧ RowM w ok (.slice A j c) (xs.take j) := by
  obtain ⟨hx, hle, hF⟩ := Kd.V_at h
  subst hx
  have hu : Try.prog.underlying 22 = some (.slice (Try.prog.elem 22)) := by kernel_rfl
  have hd : (xs.take j).length = j := by simp; omega
  have hv := Kd.V_mk (e := 30) (base := 0) (c := c) (by omega) (Kd.F_take hF hj)
  rw [hd] at hv
  refine ⟨fun W => ?_, hv⟩
  have hs : (sizeOf (Try.prog.elem 22)).run Try.prog W = .ok 3 W := by kernel_rfl
  rw [run_sliceAt_slice (P := Try.prog) (w := W) 22 _ _ _ _ hu, run_slice_h (P := Try.prog) (w := W) 22 A xs.length c hu .i64 (j : Int) (by omega) (by omega), hs]
  simp only [Result.andThen, sliced, Int.toNat_natCast]
  have e : (if c = 0 then A else A.map (·.add (0 * 3))) = A := by
    split
    · rfl
    · cases A <;> rfl
  rw [e]
  rfl
theorem RowM.fC {w : World} {ok : Nat → Prop} {A : Option Addr} {n c : Nat} {xs : List Msg} (h : RowM w ok (.slice A n c) xs) : Kd.C kM w A n xs := by
  obtain ⟨hx, -, hF⟩ := Kd.V_at h
  rw [hx]
  exact Kd.F_now hF
theorem msgKM {w W : World} {base : Nat} {okp : Nat → Prop} (x : Msg) (cs : List Value) (h : kM.K w x cs) : kM.M W base okp x cs := by
  obtain rfl := k30_open h
  exact k30_mkM _ _ _ x
def takeL (l : List Msg) (i : Nat) : List Msg := l.take i ++ l.drop (i + 1)

set_option maxHeartbeats 4000000 in
theorem take_raw (ok : Nat → Prop) (b c n : Nat) (X : Nt) (i : Nat) (w : World) (hT : NetAt ok w b c n X) (hi : i < X.l.length) (hl : X.l.length ≤ 256) (hnew : ∀ k, w.heap.size ≤ k → ok k) :
    Calls Try.prog 27 #[.pointer (some ⟨b, 0, none⟩), .int .i64 (i : Int)] w fun e w' => e = .returned (.tuple #[]) ∧ ∃ w2 v, w' = w2.setCell ⟨b, 1, none⟩ v ∧ Kd.R kM 30 w2 w.heap.size ok v (takeL X.l i) ∧ Chg (fun _ => False) w w2 := by
  obtain ⟨-, ⟨A, k, h1, hk, hR⟩, -, -, hfz⟩ := hT.open
  have hlt := hT.lt
  have hfr := hfz 1
  obtain ⟨hs1, hR1⟩ := hR.head (j := i) (by omega)
  obtain ⟨A2, hs2, hR2⟩ := hR.cut (j := i + 1) (by omega)
  have HR1 := Aside0.mk hR1
  have HR2 := Aside0.mk hR2
  have HN := Aside0.mk hnew
  have s1 : IntKind.i64.wrap ((i : Int) + 1) = ((i + 1 : Nat) : Int) := by rw [IntWalk.i64_in _ (by omega)]; rfl
  obtain ⟨i1, hi1⟩ : ∃ i1, i + 1 = i1 := ⟨_, rfl⟩
  unfold takeL
  rw [hi1] at hs2 s1 HR2 ⊢
  have HI := Aside0.mk hi1
  have HL := Aside0.mk hl
  have HI2 := Aside0.mk hi
  clear hT hR hR1 hR2 hnew hfz hi1
  generalize X.l = l at *
  go_enter Try.func27, Try.ntmps27
  refine wp_plan [(0, 0, 4), (2, 0, 6), (3, 0, 7), (4, 0, 8), (5, 0, 9), (6, 0, 10), (7, 0, 11), (9, 0, 13), (10, 0, 14), (11, 0, 15), (12, 0, 16), (13, 0, 17), (14, 0, 18), (15, 0, 19), (1, 2, 5), (8, 2, 12), (16, 2, 20), (17, 1, 21), (18, 1, 22), (19, 3, 0)] [19] (fun W => W.cell? ⟨b, 1, none⟩ = some (.slice A l.length k)) (by kernel_rfl) rfl (by kernel_rfl) (fun _ t _ _ _ h => by cases t <;> exact h) h1 (fun hS => ?_)
  repeat (refine RP.take (v := ?_) (a' := ?_) rfl rfl (by assumption) (Or.inl ⟨by rfl, ?_⟩) ?_ ?_; rotate_left; (focus (rintro w' hS0; go_simp; with_reducible rfl)); rotate_left; (focus (simp only [Act.put, List.setIfInBounds_toArray, List.set_cons_zero, List.set_cons_succ, i64_w, i32_w]; rfl)))
  refine RP.one rfl rfl (fun K hK => ?_)
  refine Kd.R_lit_step (w0 := w) kM w.heap.size 30 (by rfl) (N := 5) (by rfl) (xs := ([] : List Msg)) (inner := []) (ok := ok) (okp := ok) ?hr (Reps.none _ _) (fun _ h => h) (HN.out _ (Nat.le_refl _)) (pw_below_drewN (Below.refl _ _) _) (Nat.le_refl _) (by simp) ?_
  case hr =>
    go_simp
  intro v1 w1 ho1 hb1 hg1 hat1
  have hk1 := Chg.grown ((Chg.refl (fun _ => False) w).drewN _) hg1 (fun k e => by cases e)
  refine hK.out _ _ ((hg1.cell_far _ hlt (by simp)).trans h1) (fun hS => ?_)
  clear hK K
  refine RP.norm (a' := ?_) ?_ ?_
  rotate_left
  · show Act.put _ (some 5) _ = _
    simp only [Act.put, List.setIfInBounds_toArray, List.set_cons_zero, List.set_cons_succ, i64_w, i32_w]
    rfl
  refine RP.one rfl rfl (fun K hK => ?_)
  refine Kd.R_append_rows_step kM (Rr := kM.K w1) w.heap.size (by rfl) (.tmp 5) (.tmp 11) 22 30 (.agg #[.int .i64 0, .int .i64 0, .string ⟨#[]⟩]) 32 (by rfl) Try.underlying22 infoM rfl (by decide) (by decide) v1 [] (l.take i) A i k ok (fun _ => False) (by rfl) (by rfl) ho1 (HR1.out.chg hk1 (fun _ _ h => h)).fC (fun x cs h => msgKM x cs h) (fun _ h => h.elim) (fun k hk => HN.out k (Nat.le_trans hk1.low.size hk)) hb1 hk1.low.size (by have := HL.out; have := HI2.out; simp; omega) ?_
  intro v2 w2 ho2 hb2 hg2 hat2
  have hat3 : ∀ k', v1.ownBlock = some k' → w.heap.size ≤ k' := fun k' e => by obtain ⟨b, h1, h2⟩ := hat1; rw [h1] at e; cases e; exact h2
  have hk2 := hk1.grownN hg2 hat3
  refine hK.out _ _ ((hk2.cell (p := ⟨b, 1, none⟩) hlt).trans h1) (fun hS => ?_)
  clear hK K
  refine RP.norm (a' := ?_) ?_ ?_
  rotate_left
  · show Act.put _ (some 12) _ = _
    simp only [Act.put, List.setIfInBounds_toArray, List.set_cons_zero, List.set_cons_succ, i64_w, i32_w]
    rfl
  refine RP.one rfl rfl (fun K hK => ?_)
  rw [List.nil_append] at ho2
  refine Kd.R_append_rows_step kM (Rr := kM.K w2) w.heap.size (by rfl) (.tmp 12) (.tmp 19) 22 30 (.agg #[.int .i64 0, .int .i64 0, .string ⟨#[]⟩]) 32 (by rfl) Try.underlying22 infoM rfl (by decide) (by decide) v2 (l.take i) (l.drop i1) A2 (l.length - i1) (k - i1) ok (fun _ => False) (by rfl) (by rfl) ho2 (HR2.out.chg hk2 (fun _ _ h => h)).fC (fun x cs h => msgKM x cs h) (fun _ h => h.elim) (fun k hk => HN.out k (Nat.le_trans hk2.low.size hk)) hb2 hk2.low.size (by have := HL.out; have := HI2.out; simp; omega) ?_
  intro v3 w3 ho3 hb3 hg3 hat4
  have hk3 := hk2.grownN hg3 (fun k e => Kd.R_base ho2 k e)
  have hcz := (hk3.cell (p := ⟨b, 1, none⟩) hlt).trans h1
  have hfz := (hk3.frozen (p := ⟨b, 1, none⟩) hlt).trans hfr
  refine hK.out _ _ hcz (fun hS => ?_)
  clear hK K
  have HO3 := Aside0.mk ho3
  have HK3 := Aside0.mk hk3
  obtain ⟨A4, n4, c4, rfl⟩ : ∃ A4 n4 c4, v3 = .slice A4 n4 c4 := by
    have hv : RowM w3 ok v3 (l.take i ++ l.drop i1) := Kd.R_V ho3
    obtain ⟨A4, c4, e⟩ := Kd.V_slice hv
    exact ⟨A4, _, c4, e⟩
  clear hk1 hk2 hk3 ho1 ho2 ho3 hb1 hb2 hb3 hg1 hg2 hg3 hat1 hat2 hat3 hat4
  refine RP.norm (a' := ?_) ?_ ?_
  rotate_left
  · show Act.put _ (some 20) _ = _
    simp only [Act.put, List.setIfInBounds_toArray, List.set_cons_zero, List.set_cons_succ, i64_w, i32_w]
    rfl
  repeat (refine RP.pure (v := ?_) (a' := ?_) rfl rfl (Or.inl ⟨by rfl, ?_⟩) ?_ ?_; rotate_left; (focus (intro w'; go_simp; with_reducible rfl)); rotate_left; (focus (simp only [Act.put, List.setIfInBounds_toArray, List.set_cons_zero, List.set_cons_succ, i64_w, i32_w]; rfl)))
  refine RP.last rfl rfl (fun K hK => ?_)
  go_simp
  refine hK.out _ _ (RP.nil ?_)
  clear hK K
  go_end0
  exact ⟨rfl, _, _, rfl, HO3.out, HK3.out⟩
theorem take_calls (ok : Nat → Prop) (b c n : Nat) (X : Nt) (i : Nat) (w : World) (hT : NetAt ok w b c n X) (hi : i < X.l.length) (hl : X.l.length ≤ 256) (hok : ∀ k, ok k → k ≠ b) (hnew : ∀ k, w.heap.size ≤ k → ok k) :
    Calls Try.prog 27 #[.pointer (some ⟨b, 0, none⟩), .int .i64 (i : Int)] w fun e w' => e = .returned (.tuple #[]) ∧ NetAt ok w' b c n { X with l := takeL X.l i } ∧ Chg (fun k => k = b) w w' := by
  refine (take_raw ok b c n X i w hT hi hl hnew).mono ?_
  rintro e w' ⟨rfl, w2, v, rfl, hR, hc⟩
  exact ⟨rfl, (hT.chg hc (fun h => h) (fun h => h) (fun _ _ h => h)).setL hok (Kd.R_V hR), Chg.set (S := fun k => k = b) (p := ⟨b, 1, none⟩) (hc.mono (fun _ h => h.elim)) (.inl rfl) _⟩

end Go.Proofs.Ytclmhodgfhkgcaa.Q

/- The contracts of the net's Deliver and Drop. -/
namespace Go.Proofs.Ytclmhodgfhkgcaa.Q
open Go.RowKit Go.Proofs.YtclmhodgfhkgcaaW.PrintWords Go.Proofs.YtclmhodgfhkgcaaW.PrintLast Go.Proofs.YtclmhodgfhkgcaaW.PrintMore
set_option linter.unusedVariables false
set_option linter.unusedSimpArgs false

/-- The state behind a message that is taken out. -/
def tk (X : Nt) (i : Int) : Nt := { X with l := takeL X.l i.toNat }
def lose (X : Nt) : Nt := { X with lost := X.lost + 1 }
def nDeliver (X : Nt) (i : Int) : (Msg × Int) × Nt :=
  if Is X i then (if upB X (rdM X.l i).f0 (rdM X.l i).f1 then ((rdM X.l i, 0), tk X i) else ((zM, 11), lose (tk X i))) else ((zM, 3), X)
def nDrop (X : Nt) (i : Int) : Int × Nt := if Is X i then (0, lose (tk X i)) else (3, X)
/-- A net in bounds. -/
structure Fine (X : Nt) : Prop where
  few : Few X
  len : X.l.length ≤ 256
  l0 : 0 ≤ X.lost
  l1 : X.lost ≤ 1152921504606846976
theorem NetAt.ofBelow {ok : Nat → Prop} {w w' : World} {b c n : Nat} {X : Nt} (h : NetAt ok w b c n X) (hc : Chg (fun _ => False) w w') : NetAt ok w' b c n X := h.chg hc (fun h => h) (fun h => h) (fun _ _ h => h)
theorem Chg.only {b : Nat} {w w' : World} (hc : Chg (fun _ => False) w w') : Chg (fun k => k = b) w w' := hc.mono (fun _ h => h.elim)

set_option maxHeartbeats 4000000 in
theorem Drop_calls (ok : Nat → Prop) (b c n : Nat) (X : Nt) (i : Int) (w : World) (hT : NetAt ok w b c n X) (hF : Fine X) (hok : ∀ k, ok k → k ≠ b) (hnew : ∀ k, w.heap.size ≤ k → ok k) :
    Calls Try.prog 13 #[.pointer (some ⟨b, 0, none⟩), .int .i64 i] w fun e w' => e = .returned (.int .i64 (nDrop X i).1) ∧ NetAt ok w' b c n (nDrop X i).2 ∧ Chg (fun k => k = b) w w' := by
  have HT := Aside0.mk hT
  have HO := Aside0.mk hok
  have HN := Aside0.mk hnew
  have HF := Aside0.mk hF
  have l0 := hF.l0
  have l1 := hF.l1
  unfold nDrop
  by_cases hi : Is X i
  · rw [if_pos hi]
    obtain ⟨j, rfl⟩ : ∃ j : Nat, i = j := ⟨i.toNat, by unfold Is at hi; omega⟩
    have HI := Aside0.mk hi
    clear hT hok hnew hF hi
    have hb := fun w0 h => at_yes ok b c n X (j : Int) w0 h HI.out
    have HA := Aside0.mk hb
    clear hb
    generalize rdM X.l (j : Int) = m at *
    obtain ⟨z, hz⟩ : ∃ z, X.lost = z := ⟨_, rfl⟩
    rw [hz] at l0 l1
    have HZ := Aside0.mk hz
    clear hz
    go_enter Try.func13, Try.ntmps13
    go_wp2_with (first
      | (go_at_call 26; refine (HA.out _ HT.out).mono ?_; rintro e w1 ⟨rfl, hc⟩; have HC := Aside0.mk hc; clear hc)
      | (go_at_call 27; refine (take_calls ok b c n X j _ (HT.out.ofBelow (HC.out.alloc _)) (by have := HI.out; unfold Is at this; omega) HF.out.len HO.out (fun k hk => HN.out k (Nat.le_trans (HC.out.alloc _).low.size hk))).mono ?_; rintro e w2 ⟨rfl, hn2, hc2⟩; have HN2 := Aside0.mk hn2; have HC2 := Aside0.mk ((HC.out.alloc _).only.trans hc2); have h3 := hn2.open.2.2.2.1; have hf3 := hn2.open.2.2.2.2 3; simp only [HZ.out] at h3; clear hn2 hc2 HC))
    go_ret
    refine ⟨rfl, ?_, Chg.set (S := fun k => k = b) (p := ⟨b, 3, none⟩) HC2.out (.inl rfl) _⟩
    have h4 := HN2.out.setLost HO.out (z + 1)
    unfold lose tk
    rw [Int.toNat_natCast, HZ.out]
    exact h4
  · rw [if_neg hi]
    have hb := fun w0 h => at_no ok b c n X i w0 h hi
    have HA := Aside0.mk hb
    clear hb hT hok hnew hF hi
    go_enter Try.func13, Try.ntmps13
    go_wp2_with (first
      | (go_at_call 26; refine (HA.out _ HT.out).mono ?_; rintro e w1 ⟨rfl, hc⟩; have HC := Aside0.mk hc; clear hc))
    go_ret
    exact ⟨rfl, HT.out.ofBelow (HC.out.alloc _), (HC.out.alloc _).only⟩

end Go.Proofs.Ytclmhodgfhkgcaa.Q

/- The contract of the net's Deliver. -/
namespace Go.Proofs.Ytclmhodgfhkgcaa.Q
open Go.RowKit Go.Proofs.YtclmhodgfhkgcaaW.PrintWords Go.Proofs.YtclmhodgfhkgcaaW.PrintLast Go.Proofs.YtclmhodgfhkgcaaW.PrintMore
set_option linter.unusedVariables false
set_option linter.unusedSimpArgs false

theorem chg_blk {S : Nat → Prop} {w w' : World} (h : Chg S w w') {g : Nat} (hS : ¬ S g) {o : Obj} (hb : w.heap[g]? = some o) : w'.heap[g]? = some o := (h.keep g (blk_lt hb) hS).trans hb
theorem Chg.set3 (w : World) (g : Nat) (a b c : Value) : Chg (fun k => k = g) w (((w.setCell ⟨g, 0, none⟩ a).setCell ⟨g, 1, none⟩ b).setCell ⟨g, 2, none⟩ c) :=
  Chg.set (S := fun k => k = g) (p := ⟨g, 2, none⟩) (Chg.set (S := fun k => k = g) (p := ⟨g, 1, none⟩) (Chg.set (S := fun k => k = g) (p := ⟨g, 0, none⟩) (Chg.refl _ _) (.inl rfl) _) (.inl rfl) _) (.inl rfl) _
theorem NetAt.bound {ok : Nat → Prop} {w : World} {b c n : Nat} {X : Nt} (h : NetAt ok w b c n X) : NetAt (fun k => ok k ∧ k < w.heap.size) w b c n X := by
  obtain ⟨hne, ⟨v, hv, hR⟩, hC⟩ := h
  exact ⟨hne, ⟨v, hv, Kd.V_bound hR⟩, hC⟩
theorem NetAt.mono {ok ok' : Nat → Prop} {w : World} {b c n : Nat} {X : Nt} (h : NetAt ok w b c n X) (hk : ∀ k, ok k → ok' k) : NetAt ok' w b c n X := by
  obtain ⟨hne, ⟨v, hv, hR⟩, hC⟩ := h
  exact ⟨hne, ⟨v, hv, Kd.V_mono hR hk⟩, hC⟩
set_option maxHeartbeats 4000000 in
theorem deliver_no (ok : Nat → Prop) (b c n : Nat) (X : Nt) (i : Int) (w : World) (hT : NetAt ok w b c n X) (hi : ¬ Is X i) :
    Calls Try.prog 14 #[.pointer (some ⟨b, 0, none⟩), .int .i64 i] w fun e w' => e = .returned (.tuple #[MsgV zM, .int .i64 3]) ∧ Chg (fun _ => False) w w' := by
  have HT := Aside0.mk hT
  have hb := fun w0 h => at_no ok b c n X i w0 h hi
  have HA := Aside0.mk hb
  clear hb hT hi
  go_enter Try.func14, Try.ntmps14
  go_wp2_with (first
    | (go_at_call 26; refine (HA.out _ (HT.out.ofBelow ((Chg.refl _ _).alloc _))).mono ?_; rintro e w1 ⟨rfl, hc⟩; have HC := Aside0.mk (((Chg.refl _ w).alloc _).trans hc); have B1 := Aside0.mk (chg_blk hc (fun h => h) (blk_new _ _)); clear hc; obtain ⟨d0, d1, d2, f0, f1, f2⟩ := box3 B1.out; have hl1 := blk_lt B1.out))
  refine bodyPost_ret (results_ct rfl _ _ w.heap.size 30 _ (0, 0) _ rfl (blk_alloc (blk_put (blk_put (blk_put B1.out 0 _ rfl) 1 _ rfl) 2 _ rfl) _) Try.underlying30 rfl (by kernel_rfl)) rfl ?_
  exact ⟨rfl, (((HC.out.set (.inr (Nat.le_refl _)) _).set (.inr (Nat.le_refl _)) _).set (.inr (Nat.le_refl _)) _).alloc _⟩
set_option maxHeartbeats 4000000 in
theorem deliver_yes (ok : Nat → Prop) (b c n : Nat) (X : Nt) (j : Nat) (w : World) (hT : NetAt ok w b c n X) (hF : Fine X) (hok : ∀ k, ok k → k ≠ b) (hnew : ∀ k, w.heap.size ≤ k → ok k) (hi : Is X (j : Int)) (m : Msg) (hm : rdM X.l (j : Int) = m) :
    Calls Try.prog 14 #[.pointer (some ⟨b, 0, none⟩), .int .i64 (j : Int)] w fun e w' => (upB X m.f0 m.f1 = true ∧ e = .returned (.tuple #[MsgV m, .int .i64 0]) ∧ NetAt ok w' b c n (tk X (j : Int)) ∨ upB X m.f0 m.f1 = false ∧ e = .returned (.tuple #[MsgV zM, .int .i64 11]) ∧ NetAt ok w' b c n (lose (tk X (j : Int)))) ∧ Chg (fun k => k = b) w w' := by
  have HT := Aside0.mk hT
  have HO := Aside0.mk hok
  have HN := Aside0.mk hnew
  have HF := Aside0.mk hF
  have HI := Aside0.mk hi
  have l0 := hF.l0
  have l1 := hF.l1
  have HLB := Aside0.mk hT.lt
  have hb := fun w0 h => at_yes ok b c n X (j : Int) w0 h HI.out
  rw [hm] at hb
  have HA := Aside0.mk hb
  have hu := fun ok w0 h => Up_calls ok b c n { X with l := takeL X.l j } m.f0 m.f1 w0 h hF.few
  have hue : upB { X with l := takeL X.l j } m.f0 m.f1 = upB X m.f0 m.f1 := rfl
  rw [hue] at hu
  have HU := Aside0.mk hu
  clear hT hok hnew hF hi hb hm hu hue
  unfold tk lose
  rw [Int.toNat_natCast]
  obtain ⟨z, hz⟩ : ∃ z, X.lost = z := ⟨_, rfl⟩
  rw [hz] at l0 l1
  have HZ := Aside0.mk hz
  clear hz
  cases hup : upB X m.f0 m.f1
  all_goals
    rw [hup] at HU
    go_enter Try.func14, Try.ntmps14
    go_wp2_with (first
      | (go_at_call 26; refine (HA.out _ (HT.out.ofBelow ((Chg.refl _ _).alloc _))).mono ?_; rintro e w1 ⟨rfl, hc⟩; have HC := Aside0.mk (((Chg.refl _ w).alloc _).trans hc); have B1 := Aside0.mk (chg_blk hc (fun h => h) (blk_new _ _)); clear hc; obtain ⟨d0, d1, d2, f0, f1, f2⟩ := box3 B1.out; have hl1 := blk_lt B1.out)
      | (go_at_call 27; refine (take_calls (fun k => ok k ∧ k ≠ w.heap.size ∧ k ≠ w1.heap.size) b c n X j _ ((HT.out.bound.mono (fun k hk => ⟨hk.1, by omega, by have := HC.out.low.size; omega⟩)).ofBelow (HC.out.alloc _)) (by have := HI.out; unfold Is at this; omega) HF.out.len (fun k hk => HO.out k hk.1) (fun k hk => ⟨HN.out k (Nat.le_trans (HC.out.alloc _).low.size hk), by have h1 := HC.out.low.size; simp at hk; omega, by simp at hk; omega⟩)).mono ?_; rintro e w2 ⟨rfl, hn2, hc2⟩; have HN2 := Aside0.mk hn2; have HC2 := Aside0.mk ((HC.out.alloc _).only.trans hc2); have B2 := Aside0.mk (chg_blk hc2 (show ¬ w.heap.size = b from by have := HLB.out; omega) (blk_alloc B1.out _)); have M2 := Aside0.mk (chg_blk hc2 (show ¬ w1.heap.size = b from by have := HLB.out; have := HC.out.low.size; omega) (blk_new _ _)); have h3 := hn2.open.2.2.2.1; have hf3 := hn2.open.2.2.2.2 3; simp only [HZ.out] at h3; have HSZ := Aside0.mk HC.out.low.size; clear hn2 hc2 HC B1 d0 d1 d2 f0 f1 f2 hl1; obtain ⟨m0, m1, m2, q0, q1, q2⟩ := box3 M2.out)
      | (go_at_call 18; refine (HU.out _ _ HN2.out).mono ?_; rintro e w3 ⟨rfl, hc⟩; have HC3 := Aside0.mk (HC2.out.trans hc.only); have HN3 := Aside0.mk (HN2.out.ofBelow hc); have B3 := Aside0.mk (chg_blk hc (fun h => h) B2.out); have M3 := Aside0.mk (chg_blk hc (fun h => h) M2.out); clear hc HC2 HN2 B2 M2 m0 m1 m2 q0 q1 q2 h3 hf3; have h3 := HN3.out.open.2.2.2.1; have hf3 := HN3.out.open.2.2.2.2 3; simp only [HZ.out] at h3; obtain ⟨d0, d1, d2, f0, f1, f2⟩ := box3 B3.out; obtain ⟨m0, m1, m2, q0, q1, q2⟩ := box3 M3.out; have hbg : b ≠ w.heap.size := (by have := HLB.out; omega)))
  · refine bodyPost_ret (results_ct rfl _ _ w.heap.size 30 _ (0, 0) _ rfl (blk_put (blk_put (blk_put (blk_far B3.out hbg.symm _) 0 _ rfl) 1 _ rfl) 2 _ rfl) Try.underlying30 rfl (by kernel_rfl)) rfl ?_
    refine ⟨.inr ⟨trivial, rfl, ?_⟩, ?_⟩
    · have h4 := HN3.out.setLost (fun k hk => HO.out k hk.1) (z + 1)
      rw [HZ.out]
      refine NetAt.mono (h4.chg (S := fun k => k = w.heap.size) (Chg.set3 _ _ _ _ _) hbg ?_ (fun k hk => hk.2.1)) (fun k hk => hk.1)
      have := HT.out.cuts.lt
      omega
    · exact (((HC3.out.set (p := ⟨b, 3, none⟩) (.inl rfl) _).set (.inr (Nat.le_refl _)) _).set (.inr (Nat.le_refl _)) _).set (.inr (Nat.le_refl _)) _
  · refine bodyPost_ret (results_ct rfl _ _ w.heap.size 30 _ (0, 0) _ rfl (blk_put (blk_put (blk_put B3.out 0 _ rfl) 1 _ rfl) 2 _ rfl) Try.underlying30 rfl (by kernel_rfl)) rfl ?_
    refine ⟨.inl ⟨trivial, rfl, ?_⟩, ?_⟩
    · refine NetAt.mono (HN3.out.chg (S := fun k => k = w.heap.size) (Chg.set3 _ _ _ _ _) hbg ?_ (fun k hk => hk.2.1)) (fun k hk => hk.1)
      have := HT.out.cuts.lt
      omega
    · exact ((HC3.out.set (.inr (Nat.le_refl _)) _).set (.inr (Nat.le_refl _)) _).set (.inr (Nat.le_refl _)) _
theorem Deliver_calls (ok : Nat → Prop) (b c n : Nat) (X : Nt) (i : Int) (w : World) (hT : NetAt ok w b c n X) (hF : Fine X) (hok : ∀ k, ok k → k ≠ b) (hnew : ∀ k, w.heap.size ≤ k → ok k) :
    Calls Try.prog 14 #[.pointer (some ⟨b, 0, none⟩), .int .i64 i] w fun e w' => e = .returned (.tuple #[MsgV (nDeliver X i).1.1, .int .i64 (nDeliver X i).1.2]) ∧ NetAt ok w' b c n (nDeliver X i).2 ∧ Chg (fun k => k = b) w w' := by
  unfold nDeliver
  by_cases hi : Is X i
  · obtain ⟨j, rfl⟩ : ∃ j : Nat, i = j := ⟨i.toNat, by unfold Is at hi; omega⟩
    refine (deliver_yes ok b c n X j w hT hF hok hnew hi _ rfl).mono ?_
    rintro e w' ⟨hd, hc⟩
    rw [if_pos hi]
    rcases hd with ⟨hu, he, hn⟩ | ⟨hu, he, hn⟩
    · rw [if_pos hu]
      exact ⟨he, hn, hc⟩
    · rw [if_neg (by rw [hu]; decide)]
      exact ⟨he, hn, hc⟩
  · rw [if_neg hi]
    refine (deliver_no ok b c n X i w hT hi).mono ?_
    rintro e w' ⟨he, hc⟩
    exact ⟨he, hT.ofBelow hc, hc.only⟩

end Go.Proofs.Ytclmhodgfhkgcaa.Q

/- The contract of the net's Send. -/
namespace Go.Proofs.Ytclmhodgfhkgcaa.Q
open Go.RowKit Go.Proofs.YtclmhodgfhkgcaaW.PrintWords Go.Proofs.YtclmhodgfhkgcaaW.PrintLast Go.Proofs.YtclmhodgfhkgcaaW.PrintMore
set_option linter.unusedVariables false
set_option linter.unusedSimpArgs false

/-- One more message behind a row without room: a new row. -/
theorem step_append_msg {ops : Array Oper} {o : Oper} {a : Act} {W : World} {K : Act → World → Prop} {Q : Exit → Act → World → Prop} {E : Prop} {ok : Nat → Prop} {A : Option Addr} {c0 g : Nat} {l : List Msg} {x : Msg}
    (hg : o.guard = none) (s y : Operand) (hop : o.op = Op.call { callee := Callee.builtin Builtin.append, args := #[s, y], argTypes := #[22, 22] })
    (hs : a.eval s = .slice A l.length l.length) (hy : a.eval y = .slice (some ⟨g, 0, none⟩) 1 1) (hR : RowM W ok (.slice A l.length c0) l) (hb : W.heap[g]? = some (.cells #[.int .i64 x.f0, .int .i64 x.f1, .string x.f2] 30 (0, 0))) (hl : l.length < 1099511627776) (hok : ∀ k, W.heap.size ≤ k → ok k)
    (hK : ∀ A1 c1 w1, RowM w1 ok (.slice A1 (l.length + 1) c1) (l ++ [x]) → W.grownBy w1 none → K (a.put o.dst (.slice A1 (l.length + 1) c1)) w1) :
    if Region.wanted o (yielded ops a.tmps) = true then Oper.wp Try.prog o a W K Q else E := by
  obtain ⟨i0, hi, hz0, hz1, hz2⟩ := info_parts infoM
  have hC := hR.fC
  obtain ⟨olds, hor, hoc⟩ : ∃ olds, Reps (kM.K W) 3 l olds ∧ ∀ b, A = some b → ∀ j u, olds[j]? = some u → W.cell? (b.add j) = some u := by
    rcases A with _ | ad
    · obtain rfl : l = [] := by
        rcases l with _ | ⟨m, l⟩
        · rfl
        · obtain ⟨ad, e, -⟩ := hC.2.2 (by simp)
          cases e
      exact ⟨[], Reps.none _ _, fun b e => by cases e⟩
    · obtain ⟨cs, h1, h2⟩ := ReadsRow.inner_ hC
      exact ⟨cs, h1, fun b e => by cases e; exact h2⟩
  have hnone : A = none → l.length = 0 ∧ l.length = 0 := by
    intro e
    subst e
    rcases l with _ | ⟨m, l⟩
    · exact ⟨rfl, rfl⟩
    · obtain ⟨ad, e, -⟩ := hC.2.2 (by simp)
      cases e
  refine step_append_grows hg s y 22 hop 30 i0 _ 3 32 Try.underlying22 hi hz0 hz1 hz2 rfl (by decide) A l.length l.length olds hs hnone hor.1 hoc ⟨g, 0, Option.none⟩ 1 1 [.int .i64 x.f0, .int .i64 x.f1, .string x.f2] hy rfl
    (World.news_of_block (cs := #[.int .i64 x.f0, .int .i64 x.f1, .string x.f2]) hb) (by simp [Value.oneCell']) (by omega) (by unfold maxLen; omega) (by omega) (fun v' w' hown hgrow => ?_)
  have HR : Kd.R kM 30 w' W.heap.size ok v' (l ++ [x]) := by
    refine ⟨fun k hk => hok k (own_base hown k hk), _, by have h := hown; rw [show l.length + 1 = (l ++ [x]).length by simp] at h; exact h, ?_⟩
    exact Reps.snoc (hor.imp_ (fun p c h => msgKM p c h)) (msgKM x _ (k30_mk W x)) rfl
  have HR1 : RowM w' ok v' (l ++ [x]) := Kd.R_V HR
  obtain ⟨A1, c1, rfl⟩ := Kd.V_slice HR1
  have e : (l ++ [x]).length = l.length + 1 := by simp
  rw [e] at HR1 ⊢
  exact hK A1 c1 w' HR1 hgrow

def nSend (X : Nt) (m : Msg) : Int × Nt :=
  if Two X m.f0 m.f1 then (if 8192 < (m.f2.size : Int) then (4, X) else if isCut X m.f0 m.f1 then (11, lose X) else if 256 ≤ X.l.length then (10, lose X) else (0, { X with l := X.l ++ [m] })) else (2, X)
def nDouble (X : Nt) (i : Int) : Int × Nt :=
  if Is X i then (if 256 ≤ X.l.length then (10, X) else (0, { X with l := X.l ++ [rdM X.l i] })) else (3, X)
set_option maxHeartbeats 4000000 in
theorem double_not (ok : Nat → Prop) (b c n : Nat) (X : Nt) (i r : Int) (w : World) (hT : NetAt ok w b c n X) (h : (¬ Is X i ∧ r = 3) ∨ (Is X i ∧ 256 ≤ X.l.length ∧ r = 10)) :
    Calls Try.prog 12 #[.pointer (some ⟨b, 0, none⟩), .int .i64 i] w fun e w' => e = .returned (.int .i64 r) ∧ Chg (fun _ => False) w w' := by
  have HT := Aside0.mk hT
  rcases h with ⟨hi, rfl⟩ | ⟨hi, hl, rfl⟩
  · have HA := Aside0.mk (fun w0 h => at_no ok b c n X i w0 h hi)
    clear hT hi
    go_enter Try.func12, Try.ntmps12
    go_wp2_with (first
      | (go_at_call 26; refine (HA.out _ HT.out).mono ?_; rintro e w1 ⟨rfl, hc⟩; have HC := Aside0.mk hc; clear hc))
    go_ret
    exact ⟨rfl, HC.out.alloc _⟩
  · have HA := Aside0.mk (fun w0 h => at_yes ok b c n X i w0 h hi)
    clear hT hi
    have hl2 : (256 : Int) ≤ (X.l.length : Int) := by omega
    go_enter Try.func12, Try.ntmps12
    go_wp2_with (first
      | (go_at_call 26; refine (HA.out _ HT.out).mono ?_; rintro e w1 ⟨rfl, hc⟩; have HC := Aside0.mk hc; obtain ⟨-, ⟨A, k, h1, -, -⟩, -⟩ := (HT.out.ofBelow hc).open; have hlt := (HT.out.ofBelow hc).lt; clear hc))
    go_ret
    exact ⟨rfl, HC.out.alloc _⟩
set_option maxHeartbeats 4000000 in
set_option maxRecDepth 100000 in
theorem double_yes (ok : Nat → Prop) (b c n : Nat) (X : Nt) (j : Nat) (w : World) (hT : NetAt ok w b c n X) (hi : Is X (j : Int)) (hl : ¬ 256 ≤ X.l.length) (m : Msg) (hm : rdM X.l (j : Int) = m) (hok : ∀ k, ok k → k ≠ b) (hnew : ∀ k, w.heap.size ≤ k → ok k) :
    Calls Try.prog 12 #[.pointer (some ⟨b, 0, none⟩), .int .i64 (j : Int)] w fun e w' => e = .returned (.int .i64 0) ∧ NetAt ok w' b c n { X with l := X.l ++ [m] } ∧ Chg (fun k => k = b) w w' := by
  have HT := Aside0.mk hT
  have HO := Aside0.mk hok
  have HN := Aside0.mk hnew
  have hb := fun w0 h => at_yes ok b c n X (j : Int) w0 h hi
  rw [hm] at hb
  have HA := Aside0.mk hb
  clear hT hi hb hm hok hnew
  have hl2 : (X.l.length : Int) < 256 := by omega
  obtain ⟨l, hll⟩ : ∃ l, X.l = l := ⟨_, rfl⟩
  rw [hll] at hl hl2 ⊢
  have HLL := Aside0.mk hll
  clear hll
  go_enter Try.func12, Try.ntmps12
  go_wp2_with (first
    | (go_at_call 26; refine (HA.out _ HT.out).mono ?_; rintro e w1 ⟨rfl, hc⟩; have HC := Aside0.mk hc; obtain ⟨-, ⟨A, k, h1, hlk, hR⟩, -⟩ := (HT.out.ofBelow hc).open; have hlt := (HT.out.ofBelow hc).lt; simp only [HLL.out] at h1 hR hlk; have HR0 := Aside0.mk hR; clear hc hR))
  obtain ⟨W1, hW1⟩ : ∃ W1, w1.alloc (.cells #[.int .i64 m.f0, .int .i64 m.f1, .string m.f2] 30 (0, 0)) = W1 := ⟨_, rfl⟩
  have HC1 : Aside0 (Chg (fun _ => False) w W1) := ⟨hW1 ▸ HC.out.alloc _⟩
  have HCx : Aside0 (Chg (fun _ => False) w1 W1) := ⟨hW1 ▸ (Chg.refl _ _).alloc _⟩
  have B1 : Aside0 (W1.heap[w1.heap.size]? = some (.cells #[.int .i64 m.f0, .int .i64 m.f1, .string m.f2] 30 (0, 0))) := ⟨hW1 ▸ blk_new _ _⟩
  rw [hW1]
  have HR1 := Aside0.mk (HR0.out.chg HCx.out (fun _ _ h => h))
  have h1' := (HCx.out.cell (p := ⟨b, 1, none⟩) hlt).trans h1
  have hltW : b < W1.heap.size := Nat.lt_of_lt_of_le hlt HCx.out.low.size
  have hgW := blk_lt B1.out
  obtain ⟨d0, d1, d2, -, -, -⟩ := box3 B1.out
  have hfr := (HT.out.ofBelow HC1.out).open.2.2.2.2 1
  generalize w1.heap.size = g at *
  clear h1 hW1 HC HCx HR0 hlt
  refine wp_plan [(0, 0, 24), (1, 0, 25), (2, 0, 26), (3, 0, 27), (4, 0, 28), (5, 0, 29), (6, 0, 30), (7, 0, 31), (8, 0, 32), (9, 0, 33), (10, 0, 34), (11, 0, 35), (12, 0, 36), (13, 0, 37), (14, 0, 38), (15, 0, 39), (16, 0, 40), (17, 2, 41), (18, 2, 42), (19, 1, 43), (20, 1, 44), (21, 3, 0)] [21] (fun W => W.cell? ⟨b, 1, none⟩ = some (.slice A l.length k) ∧ W.cell? ⟨g, 0, none⟩ = some (.int .i64 m.f0) ∧ W.cell? ⟨g, 1, none⟩ = some (.int .i64 m.f1) ∧ W.cell? ⟨g, 2, none⟩ = some (.string m.f2)) (by kernel_rfl) rfl (by kernel_rfl) (fun _ t _ _ _ h => by cases t <;> exact h) ⟨h1', d0, d1, d2⟩ (fun hS => ?_)
  repeat (refine RP.take (v := ?_) (a' := ?_) rfl rfl (by assumption) (Or.inl ⟨by rfl, ?_⟩) ?_ ?_; rotate_left; (focus (rintro w' ⟨hS0, hS1, hS2, hS3⟩; go_simp; with_reducible rfl)); rotate_left; (focus (simp only [Act.put, List.setIfInBounds_toArray, List.set_cons_zero, List.set_cons_succ, i64_w, i32_w]; rfl)))
  refine RP.one rfl rfl (fun K hK => ?_)
  go_simp
  have hk2 := ((Chg.refl (fun _ => False) W1).drewN 1).alloc (.cells #[.int .i64 m.f0, .int .i64 m.f1, .string m.f2] 30 (0, 0))
  refine hK.out _ _ ⟨(hk2.cell (p := ⟨b, 1, none⟩) hltW).trans h1', (hk2.cell (p := ⟨g, 0, none⟩) hgW).trans d0, (hk2.cell (p := ⟨g, 1, none⟩) hgW).trans d1, (hk2.cell (p := ⟨g, 2, none⟩) hgW).trans d2⟩ (fun hS => ?_)
  clear hK K
  refine RP.one rfl rfl (fun K hK => ?_)
  refine step_append_msg (ok := ok) (A := A) (c0 := k) (g := W1.heap.size) (l := l) (x := m) (by rfl) (.tmp 39) (.tmp 41) (by rfl) (by rfl) (by rfl) (HR1.out.chg hk2 (fun _ _ h => h)) (heap_alloc_new _ _) (by omega) (fun k hk => HN.out k (Nat.le_trans (HC1.out.trans hk2).low.size hk)) ?_
  intro A1 c1 w2 HR2 hgrow
  have hk3 := hk2.grown hgrow (fun k e => by cases e)
  have hcz := (hk3.cell (p := ⟨b, 1, none⟩) hltW).trans h1'
  have hfz := (hk3.frozen (p := ⟨b, 1, none⟩) hltW).trans hfr
  refine hK.out _ _ ⟨hcz, (hk3.cell (p := ⟨g, 0, none⟩) hgW).trans d0, (hk3.cell (p := ⟨g, 1, none⟩) hgW).trans d1, (hk3.cell (p := ⟨g, 2, none⟩) hgW).trans d2⟩ (fun hS => ?_)
  clear hK K
  have HK3 := Aside0.mk (HC1.out.trans hk3)
  have HR3 := Aside0.mk HR2
  clear hgrow HR2 hk2 hk3 h1' d0 d1 d2 hfr hltW hgW
  refine RP.norm (a' := ?_) ?_ ?_
  rotate_left
  · simp only [Act.put, List.setIfInBounds_toArray, List.set_cons_zero, List.set_cons_succ, i64_w, i32_w]
    rfl
  repeat (refine RP.pure (v := ?_) (a' := ?_) rfl rfl (Or.inl ⟨by rfl, ?_⟩) ?_ ?_; rotate_left; (focus (intro w'; go_simp; with_reducible rfl)); rotate_left; (focus (simp only [Act.put, List.setIfInBounds_toArray, List.set_cons_zero, List.set_cons_succ, i64_w, i32_w]; rfl)))
  refine RP.last rfl rfl (fun K hK => ?_)
  go_simp
  refine hK.out _ _ (RP.nil ?_)
  clear hK K
  go_wp2
  go_ret
  exact ⟨rfl, (HT.out.ofBelow HK3.out).setL HO.out HR3.out, Chg.set (S := fun k => k = b) (p := ⟨b, 1, none⟩) HK3.out.only (.inl rfl) _⟩
theorem Double_calls (ok : Nat → Prop) (b c n : Nat) (X : Nt) (i : Int) (w : World) (hT : NetAt ok w b c n X) (hok : ∀ k, ok k → k ≠ b) (hnew : ∀ k, w.heap.size ≤ k → ok k) :
    Calls Try.prog 12 #[.pointer (some ⟨b, 0, none⟩), .int .i64 i] w fun e w' => e = .returned (.int .i64 (nDouble X i).1) ∧ NetAt ok w' b c n (nDouble X i).2 ∧ Chg (fun k => k = b) w w' := by
  unfold nDouble
  by_cases hi : Is X i
  · rw [if_pos hi]
    by_cases hl : 256 ≤ X.l.length
    · rw [if_pos hl]
      refine (double_not ok b c n X i 10 w hT (.inr ⟨hi, hl, rfl⟩)).mono ?_
      rintro e w' ⟨he, hc⟩
      exact ⟨he, hT.ofBelow hc, hc.only⟩
    · rw [if_neg hl]
      obtain ⟨j, rfl⟩ : ∃ j : Nat, i = j := ⟨i.toNat, by unfold Is at hi; omega⟩
      exact double_yes ok b c n X j w hT hi hl _ rfl hok hnew
  · rw [if_neg hi]
    refine (double_not ok b c n X i 3 w hT (.inl ⟨hi, rfl⟩)).mono ?_
    rintro e w' ⟨he, hc⟩
    exact ⟨he, hT.ofBelow hc, hc.only⟩

end Go.Proofs.Ytclmhodgfhkgcaa.Q

/- The contract of the net's Send. -/
namespace Go.Proofs.Ytclmhodgfhkgcaa.Q
open Go.RowKit Go.Proofs.YtclmhodgfhkgcaaW.PrintWords Go.Proofs.YtclmhodgfhkgcaaW.PrintLast Go.Proofs.YtclmhodgfhkgcaaW.PrintMore
set_option linter.unusedVariables false
set_option linter.unusedSimpArgs false

set_option maxHeartbeats 4000000 in
theorem send_not (ok : Nat → Prop) (b c n : Nat) (X : Nt) (m : Msg) (r : Int) (w : World) (hT : NetAt ok w b c n X) (h : (¬ Two X m.f0 m.f1 ∧ r = 2) ∨ (Two X m.f0 m.f1 ∧ 8192 < (m.f2.size : Int) ∧ r = 4)) :
    Calls Try.prog 10 #[.pointer (some ⟨b, 0, none⟩), MsgV m] w fun e w' => e = .returned (.int .i64 r) ∧ Chg (fun _ => False) w w' := by
  have HT := Aside0.mk hT
  rcases h with ⟨hi, rfl⟩ | ⟨hi, hl, rfl⟩
  case' inl => have HD := Aside0.mk (decide_eq_false hi)
  case' inr => have HD := Aside0.mk (decide_eq_true hi)
  all_goals
    have HB := Aside0.mk (fun w0 h => between_calls ok b c n X m.f0 m.f1 w0 h)
    rw [HD.out] at HB
    generalize min m.f0 m.f1 = mn at *
    generalize max m.f0 m.f1 = mx at *
    clear hT hi
    go_enter Try.func10, Try.ntmps10
    go_wp2_with (first
      | (go_at_call 25; refine (HB.out _ (HT.out.ofBelow ((Chg.refl _ _).alloc _))).mono ?_; rintro e w1 ⟨rfl, hc⟩; have HC := Aside0.mk (((Chg.refl (fun _ => False) w).alloc _).trans hc); have B1 := Aside0.mk (chg_blk hc (fun h => h) (blk_new _ _)); clear hc; obtain ⟨d0, d1, d2, f0, f1, f2⟩ := box3 B1.out; have hl1 := blk_lt B1.out))
    go_ret
    exact ⟨rfl, HC.out.alloc _⟩
set_option maxHeartbeats 4000000 in
set_option maxRecDepth 100000 in
theorem send_on (ok : Nat → Prop) (b c n : Nat) (X : Nt) (m : Msg) (w : World) (hT : NetAt ok w b c n X) (hF : Fine X) (h2 : Two X m.f0 m.f1) (hs : ¬ 8192 < (m.f2.size : Int)) (hok : ∀ k, ok k → k ≠ b) (hnew : ∀ k, w.heap.size ≤ k → ok k) :
    Calls Try.prog 10 #[.pointer (some ⟨b, 0, none⟩), MsgV m] w fun e w' => e = .returned (.int .i64 (if isCut X m.f0 m.f1 then (11, lose X) else if 256 ≤ X.l.length then (10, lose X) else (0, { X with l := X.l ++ [m] })).1) ∧ NetAt ok w' b c n (if isCut X m.f0 m.f1 then ((11 : Int), lose X) else if 256 ≤ X.l.length then (10, lose X) else (0, { X with l := X.l ++ [m] })).2 ∧ Chg (fun k => k = b) w w' := by
  have HT := Aside0.mk hT
  have HO := Aside0.mk hok
  have HN := Aside0.mk hnew
  have l0 := hF.l0
  have l1 := hF.l1
  have HD := Aside0.mk (decide_eq_true h2)
  obtain ⟨n1, n2⟩ := h2.nd hF.few
  have HB := Aside0.mk (fun w0 h => between_calls ok b c n X m.f0 m.f1 w0 h)
  rw [HD.out] at HB
  unfold isCut
  generalize min m.f0 m.f1 = mn at *
  generalize max m.f0 m.f1 = mx at *
  have HLK : Aside0 (∀ W, CutAt W c n X.cut → (Instr.lookup 56 (.map (some c)) (KL mn mx) false).run Try.prog W = .ok (.int .i64 (if X.cut mn mx then 1 else 0)) W) := ⟨fun W h => h.look n1 n2⟩
  obtain ⟨z, hz⟩ : ∃ z, X.lost = z := ⟨_, rfl⟩
  rw [hz] at l0 l1
  have HZ := Aside0.mk hz
  obtain ⟨l, hll⟩ : ∃ l, X.l = l := ⟨_, rfl⟩
  have HLL := Aside0.mk hll
  rw [hll]
  clear hz hll hT hF h2 n1 n2 hok hnew HD
  go_enter Try.func10, Try.ntmps10
  go_wp2_with (first
    | (go_at_call 25; refine (HB.out _ (HT.out.ofBelow ((Chg.refl _ _).alloc _))).mono ?_; rintro e w1 ⟨rfl, hc⟩; have HC := Aside0.mk (((Chg.refl (fun _ => False) w).alloc _).trans hc); have B1 := Aside0.mk (chg_blk hc (fun h => h) (blk_new _ _)); clear hc; obtain ⟨d0, d1, d2, f0, f1, f2⟩ := box3 B1.out; have hl1 := blk_lt B1.out))
  obtain ⟨W1, hW1⟩ : ∃ W1, w1.alloc (.cells #[.int .i64 mn, .int .i64 mx] 60 (0, 0)) = W1 := ⟨_, rfl⟩
  have HC1 : Aside0 (Chg (fun _ => False) w W1) := ⟨hW1 ▸ HC.out.alloc _⟩
  have B2 : Aside0 (W1.heap[w.heap.size]? = some (.cells #[.int .i64 m.f0, .int .i64 m.f1, .string m.f2] 30 (0, 0))) := ⟨hW1 ▸ blk_alloc B1.out _⟩
  have B3 : Aside0 (W1.heap[w1.heap.size]? = some (.cells #[.int .i64 mn, .int .i64 mx] 60 (0, 0))) := ⟨hW1 ▸ blk_new _ _⟩
  rw [hW1]
  generalize w1.heap.size = g at *
  clear hW1 HC B1 d0 d1 d2 f0 f1 f2 hl1
  have HT1 := Aside0.mk (HT.out.ofBelow HC1.out)
  obtain ⟨-, ⟨A, k, h1, hlk, hR⟩, hm, h3, hfz⟩ := HT1.out.open
  rw [HLL.out] at h1 hlk hR
  rw [HZ.out] at h3
  have hfz1 := hfz 1
  have hfz3 := hfz 3
  have HR1 := Aside0.mk hR
  have hlt := HT1.out.lt
  obtain ⟨k0, k1, -, -⟩ := box2 B3.out
  obtain ⟨d0, d1, d2, -, -, -⟩ := box3 B2.out
  have hgW := blk_lt B2.out
  have hcu := HT1.out.cuts
  clear hR hfz
  have hlk0 := HLK.out
  clear HLK
  cases hcut : X.cut mn mx
  case' false => by_cases hfull : 256 ≤ l.length
  all_goals
    rw [hcut] at hlk0
    simp only [Bool.false_eq_true, if_false, if_true] at hlk0
    have HLK := Aside0.mk hlk0
    clear hlk0
    refine wp_plan [(0, 0, 27), (1, 0, 28), (2, 0, 29), (3, 0, 30), (4, 0, 31), (5, 0, 32), (6, 0, 33), (7, 0, 26)] [] (fun W => W.cell? ⟨b, 2, none⟩ = some (.map (some c)) ∧ W.cell? ⟨g, 0, none⟩ = some (.int .i64 mn) ∧ W.cell? ⟨g, 1, none⟩ = some (.int .i64 mx) ∧ CutAt W c n X.cut) (by kernel_rfl) rfl (by kernel_rfl) (fun _ t _ _ _ h => by cases t <;> exact h) ⟨hm, k0, k1, hcu⟩ (fun hS => ?_)
    repeat (refine RP.take (v := ?_) (a' := ?_) rfl rfl (by assumption) (Or.inl ⟨by rfl, ?_⟩) ?_ ?_; rotate_left; (focus (rintro w' ⟨hS0, hS1, hS2, hS3⟩; have hl := HLK.out _ hS3; go_simp; with_reducible rfl)); rotate_left; (focus (simp only [Act.put, List.setIfInBounds_toArray, List.set_cons_zero, List.set_cons_succ, i64_w, i32_w]; rfl)))
    refine RP.nil ?_
    clear hS
    go_wp2
  all_goals try
    go_ret
    refine ⟨rfl, ?_, Chg.set (S := fun k => k = b) (p := ⟨b, 3, none⟩) (HC1.out.drewN 1).only (.inl rfl) _⟩
    have h4 := (HT.out.ofBelow (HC1.out.drewN 1)).setLost HO.out (z + 1)
    unfold lose
    rw [HZ.out]
    exact h4
  clear k0 k1 hm hcu h3 hfz3
  refine wp_plan [(0, 0, 55), (1, 0, 56), (2, 0, 57), (3, 0, 58), (4, 0, 59), (5, 0, 60), (6, 0, 61), (7, 0, 62), (8, 0, 63), (9, 0, 64), (10, 0, 65), (11, 0, 66), (12, 0, 67), (13, 0, 68), (14, 0, 69), (15, 0, 70), (16, 0, 71), (17, 2, 72), (18, 2, 73), (19, 1, 74), (20, 1, 75), (21, 3, 0)] [21] (fun W => W.cell? ⟨b, 1, none⟩ = some (.slice A l.length k) ∧ W.cell? ⟨w.heap.size, 0, none⟩ = some (.int .i64 m.f0) ∧ W.cell? ⟨w.heap.size, 1, none⟩ = some (.int .i64 m.f1) ∧ W.cell? ⟨w.heap.size, 2, none⟩ = some (.string m.f2)) (by kernel_rfl) rfl (by kernel_rfl) (fun _ t _ _ _ h => by cases t <;> exact h) ⟨h1, d0, d1, d2⟩ (fun hS => ?_)
  repeat (refine RP.take (v := ?_) (a' := ?_) rfl rfl (by assumption) (Or.inl ⟨by rfl, ?_⟩) ?_ ?_; rotate_left; (focus (rintro w' ⟨hS0, hS1, hS2, hS3⟩; go_simp; with_reducible rfl)); rotate_left; (focus (simp only [Act.put, List.setIfInBounds_toArray, List.set_cons_zero, List.set_cons_succ, i64_w, i32_w]; rfl)))
  refine RP.one rfl rfl (fun K hK => ?_)
  go_simp
  have hk2 := (((Chg.refl (fun _ => False) W1).drewN 1).drewN 1).alloc (.cells #[.int .i64 m.f0, .int .i64 m.f1, .string m.f2] 30 (0, 0))
  refine hK.out _ _ ⟨(hk2.cell (p := ⟨b, 1, none⟩) hlt).trans h1, (hk2.cell (p := ⟨w.heap.size, 0, none⟩) hgW).trans d0, (hk2.cell (p := ⟨w.heap.size, 1, none⟩) hgW).trans d1, (hk2.cell (p := ⟨w.heap.size, 2, none⟩) hgW).trans d2⟩ (fun hS => ?_)
  clear hK K
  refine RP.one rfl rfl (fun K hK => ?_)
  refine step_append_msg (ok := ok) (A := A) (c0 := k) (g := W1.heap.size) (l := l) (x := m) (by rfl) (.tmp 70) (.tmp 72) (by rfl) (by rfl) (by rfl) (HR1.out.chg hk2 (fun _ _ h => h)) (heap_alloc_new _ _) (by omega) (fun k hk => HN.out k (Nat.le_trans (HC1.out.trans hk2).low.size hk)) ?_
  intro A1 c1 w2 HR2 hgrow
  have hk3 := hk2.grown hgrow (fun k e => by cases e)
  have hcz := (hk3.cell (p := ⟨b, 1, none⟩) hlt).trans h1
  have hfz := (hk3.frozen (p := ⟨b, 1, none⟩) hlt).trans hfz1
  refine hK.out _ _ ⟨hcz, (hk3.cell (p := ⟨w.heap.size, 0, none⟩) hgW).trans d0, (hk3.cell (p := ⟨w.heap.size, 1, none⟩) hgW).trans d1, (hk3.cell (p := ⟨w.heap.size, 2, none⟩) hgW).trans d2⟩ (fun hS => ?_)
  clear hK K
  have HK3 := Aside0.mk (HC1.out.trans hk3)
  have HR3 := Aside0.mk HR2
  clear hgrow HR2 hk2 hk3 h1 d0 d1 d2 hfz1 hlt hgW
  refine RP.norm (a' := ?_) ?_ ?_
  rotate_left
  · simp only [Act.put, List.setIfInBounds_toArray, List.set_cons_zero, List.set_cons_succ, i64_w, i32_w]
    rfl
  repeat (refine RP.pure (v := ?_) (a' := ?_) rfl rfl (Or.inl ⟨by rfl, ?_⟩) ?_ ?_; rotate_left; (focus (intro w'; go_simp; with_reducible rfl)); rotate_left; (focus (simp only [Act.put, List.setIfInBounds_toArray, List.set_cons_zero, List.set_cons_succ, i64_w, i32_w]; rfl)))
  refine RP.last rfl rfl (fun K hK => ?_)
  go_simp
  refine hK.out _ _ (RP.nil ?_)
  clear hK K
  go_wp2
  all_goals go_ret
  all_goals exact ⟨rfl, (HT.out.ofBelow HK3.out).setL HO.out HR3.out, Chg.set (S := fun k => k = b) (p := ⟨b, 1, none⟩) HK3.out.only (.inl rfl) _⟩
theorem Send_calls (ok : Nat → Prop) (b c n : Nat) (X : Nt) (m : Msg) (w : World) (hT : NetAt ok w b c n X) (hF : Fine X) (hok : ∀ k, ok k → k ≠ b) (hnew : ∀ k, w.heap.size ≤ k → ok k) :
    Calls Try.prog 10 #[.pointer (some ⟨b, 0, none⟩), MsgV m] w fun e w' => e = .returned (.int .i64 (nSend X m).1) ∧ NetAt ok w' b c n (nSend X m).2 ∧ Chg (fun k => k = b) w w' := by
  unfold nSend
  by_cases h2 : Two X m.f0 m.f1
  · rw [if_pos h2]
    by_cases hs : 8192 < (m.f2.size : Int)
    · rw [if_pos hs]
      refine (send_not ok b c n X m 4 w hT (.inr ⟨h2, hs, rfl⟩)).mono ?_
      rintro e w' ⟨he, hc⟩
      exact ⟨he, hT.ofBelow hc, hc.only⟩
    · rw [if_neg hs]
      exact send_on ok b c n X m w hT hF h2 hs hok hnew
  · rw [if_neg h2]
    refine (send_not ok b c n X m 2 w hT (.inl ⟨h2, rfl⟩)).mono ?_
    rintro e w' ⟨he, hc⟩
    exact ⟨he, hT.ofBelow hc, hc.only⟩

end Go.Proofs.Ytclmhodgfhkgcaa.Q

/- The contracts of the net's Cut (that loses no message), Join, Flying. -/
namespace Go.Proofs.Ytclmhodgfhkgcaa.Q
open Go.RowKit Go.Proofs.YtclmhodgfhkgcaaW.PrintWords Go.Proofs.YtclmhodgfhkgcaaW.PrintLast Go.Proofs.YtclmhodgfhkgcaaW.PrintMore
set_option linter.unusedVariables false
set_option linter.unusedSimpArgs false

theorem step_put {ops : Array Oper} {o : Oper} {a : Act} {W : World} {K : Act → World → Prop} {Q : Exit → Act → World → Prop} {E : Prop} {c n : Nat} {f : Int → Int → Bool} {p q : Int}
    (hg : o.guard = none) (m x : Operand) (hop : o.op = Op.mapUpdate 56 m x (.const (.int .i64 1))) (hm : a.eval m = .map (some c)) (hx : a.eval x = KL p q) (hC : CutAt W c n f) (hp : Nd p) (hq : Nd q) (hn : n < 1000000)
    (hK : ∀ w', CutAt w' c (n + 1) (cutSet f p q true) → W.grownBy w' (some c) → K (a.put o.dst undef) w') :
    if Region.wanted o (yielded ops a.tmps) = true then Oper.wp Try.prog o a W K Q else E := by
  have hw : Region.wanted o (yielded ops a.tmps) = true := by simp [Region.wanted, hg]
  rw [if_pos hw]
  obtain ⟨w', hrun, h1, h2⟩ := hC.put hp hq hn
  unfold Oper.wp
  have hv : a.eval (.const (.int .i64 1)) = .int .i64 1 := rfl
  simp [execOp, hop, hm, hx, hv, hrun, Result.andThen]
  exact hK w' h1 h2
theorem step_del {ops : Array Oper} {o : Oper} {a : Act} {W : World} {K : Act → World → Prop} {Q : Exit → Act → World → Prop} {E : Prop} {c n : Nat} {f : Int → Int → Bool} {p q : Int}
    (hg : o.guard = none) (m x : Operand) (hop : o.op = Op.call { callee := Callee.builtin Builtin.delete, args := #[m, x], argTypes := #[56, 60] }) (hm : a.eval m = .map (some c)) (hx : a.eval x = KL p q) (hC : CutAt W c n f) (hp : Nd p) (hq : Nd q)
    (hK : ∀ w', CutAt w' c n (cutSet f p q false) → W.grownBy w' (some c) → K (a.put o.dst (.tuple #[])) w') :
    if Region.wanted o (yielded ops a.tmps) = true then Oper.wp Try.prog o a W K Q else E := by
  have hw : Region.wanted o (yielded ops a.tmps) = true := by simp [Region.wanted, hg]
  rw [if_pos hw]
  obtain ⟨w', hrun, h1, h2⟩ := hC.del hp hq o.type
  unfold Oper.wp
  simp [execOp, hop, resolve, invoke, builtin, hm, hx, hrun, Result.andThen]
  exact hK w' h1 h2
theorem NetAt.setCut {w w' : World} {ok : Nat → Prop} {b c n n' : Nat} {X : Nt} {f : Int → Int → Bool} (h : NetAt ok w b c n X) (hok : ∀ k, ok k → k ≠ c) (hC : CutAt w' c n' f) (hg : w.grownBy w' (some c)) : NetAt ok w' b c n' { X with cut := f } := by
  obtain ⟨hne, ⟨v, hv, hR⟩, -⟩ := h
  have hc : Chg (fun k => k = c) w w' := (Chg.refl _ _).grown hg (fun k e => by cases e; exact .inl rfl)
  exact ⟨hne, ⟨v, (hc.keep b (blk_lt hv) hne).trans hv, hR.chg hc (fun k hk => hok k hk)⟩, hC⟩
def cutX (X : Nt) (p q : Int) (x : Bool) : Nt := { X with cut := cutSet X.cut (min p q) (max p q) x }

set_option maxHeartbeats 4000000 in
theorem cut_no (ok : Nat → Prop) (b c n : Nat) (X : Nt) (p q : Int) (all : Bool) (w : World) (hT : NetAt ok w b c n X) (h : ¬ Two X p q) :
    Calls Try.prog 23 #[.pointer (some ⟨b, 0, none⟩), .int .i64 p, .int .i64 q, .bool all] w fun e w' => e = .returned (.int .i64 2) ∧ Chg (fun _ => False) w w' := by
  have HT := Aside0.mk hT
  have HB := Aside0.mk (fun w0 h => between_calls ok b c n X p q w0 h)
  rw [decide_eq_false h] at HB
  generalize min p q = mn at *
  generalize max p q = mx at *
  clear hT h
  go_enter Try.func23, Try.ntmps23
  go_wp2_with (first
    | (go_at_call 25; refine (HB.out _ (HT.out.ofBelow ((Chg.refl _ _).alloc _))).mono ?_; rintro e w1 ⟨rfl, hc⟩; have HC := Aside0.mk (((Chg.refl (fun _ => False) w).alloc _).trans hc); clear hc))
  go_ret
  exact ⟨rfl, HC.out.alloc _⟩
set_option maxHeartbeats 4000000 in
theorem cut_yes (ok : Nat → Prop) (b c n : Nat) (X : Nt) (p q : Int) (w : World) (hT : NetAt ok w b c n X) (hF : Few X) (h : Two X p q) (hok : ∀ k, ok k → k ≠ c) (hn : n < 1000000) :
    Calls Try.prog 23 #[.pointer (some ⟨b, 0, none⟩), .int .i64 p, .int .i64 q, .bool false] w fun e w' => e = .returned (.int .i64 0) ∧ NetAt ok w' b c (n + 1) (cutX X p q true) ∧ Chg (fun k => k = c) w w' := by
  have HT := Aside0.mk hT
  have HO := Aside0.mk hok
  have HNN := Aside0.mk hn
  have HB := Aside0.mk (fun w0 h => between_calls ok b c n X p q w0 h)
  rw [decide_eq_true h] at HB
  have HND := Aside0.mk (h.nd hF)
  unfold cutX
  generalize min p q = mn at *
  generalize max p q = mx at *
  clear hT h hok hF hn
  go_enter Try.func23, Try.ntmps23
  go_wp2_with (first
    | (go_at_call 25; refine (HB.out _ (HT.out.ofBelow ((Chg.refl _ _).alloc _))).mono ?_; rintro e w1 ⟨rfl, hc⟩; have HC := Aside0.mk (((Chg.refl (fun _ => False) w).alloc _).trans hc); have B1 := Aside0.mk (chg_blk hc (fun h => h) (blk_new _ _)); clear hc))
  obtain ⟨W1, hW1⟩ : ∃ W1, w1.alloc (.cells #[.int .i64 mn, .int .i64 mx] 60 (0, 0)) = W1 := ⟨_, rfl⟩
  have HC1 : Aside0 (Chg (fun _ => False) w W1) := ⟨hW1 ▸ HC.out.alloc _⟩
  have B2 : Aside0 (W1.heap[w.heap.size]? = some (.cells #[.pointer (some ⟨b, 0, none⟩)] 23 (0, 0))) := ⟨hW1 ▸ blk_alloc B1.out _⟩
  have B3 : Aside0 (W1.heap[w1.heap.size]? = some (.cells #[.int .i64 mn, .int .i64 mx] 60 (0, 0))) := ⟨hW1 ▸ blk_new _ _⟩
  rw [hW1]
  generalize w1.heap.size = g at *
  clear hW1 HC B1
  have HT1 := Aside0.mk (HT.out.ofBelow HC1.out)
  obtain ⟨-, -, hm, -, -⟩ := HT1.out.open
  have hlt := HT1.out.lt
  obtain ⟨k0, k1, -, -⟩ := box2 B3.out
  obtain ⟨d0, -⟩ := box1 B2.out
  refine wp_plan [(0, 0, 22), (1, 0, 23), (2, 0, 24), (3, 0, 25), (4, 0, 26), (5, 3, 0)] [5] (fun W => W.cell? ⟨w.heap.size, 0, none⟩ = some (.pointer (some ⟨b, 0, none⟩)) ∧ W.cell? ⟨b, 2, none⟩ = some (.map (some c)) ∧ W.cell? ⟨g, 0, none⟩ = some (.int .i64 mn) ∧ W.cell? ⟨g, 1, none⟩ = some (.int .i64 mx)) (by kernel_rfl) rfl (by kernel_rfl) (fun _ t _ _ _ h => by cases t <;> exact h) ⟨d0, hm, k0, k1⟩ (fun hS => ?_)
  repeat (refine RP.take (v := ?_) (a' := ?_) rfl rfl (by assumption) (Or.inl ⟨by rfl, ?_⟩) ?_ ?_; rotate_left; (focus (rintro w' ⟨hS0, hS1, hS2, hS3⟩; go_simp; with_reducible rfl)); rotate_left; (focus (simp only [Act.put, List.setIfInBounds_toArray, List.set_cons_zero, List.set_cons_succ, i64_w, i32_w]; rfl)))
  refine RP.last rfl rfl (fun K hK => ?_)
  refine step_put (c := c) (n := n) (f := X.cut) (p := mn) (q := mx) (by rfl) (.tmp 25) (.tmp 26) (by rfl) (by rfl) (by rfl) ((HT1.out.ofBelow ((Chg.refl _ _).drewN 1)).cuts) HND.out.1 HND.out.2 HNN.out ?_
  intro w2 hC2 hg2
  have HN2 := Aside0.mk ((HT1.out.ofBelow ((Chg.refl _ _).drewN 1)).setCut HO.out hC2 hg2)
  have HC2 := Aside0.mk (((HC1.out.drewN 1).only (b := c)).grown hg2 (fun k e => by cases e; exact .inl rfl))
  clear hC2 hg2 d0 hm k0 k1 hS
  refine hK.out _ _ (RP.nil ?_)
  clear hK K
  go_wp2
  go_ret
  exact ⟨rfl, HN2.out, HC2.out⟩
set_option maxHeartbeats 1000000 in
theorem Flying_calls (ok : Nat → Prop) (b c n : Nat) (X : Nt) (w : World) (hT : NetAt ok w b c n X) (hl : X.l.length ≤ 256) :
    Calls Try.prog 22 #[.pointer (some ⟨b, 0, none⟩)] w fun e w' => ∃ v, e = .returned v ∧ RowM w' (fun k => w.heap.size ≤ k) v X.l ∧ Chg (fun _ => False) w w' := by
  obtain ⟨-, ⟨A, k, h1, hk, hR⟩, -, -, -⟩ := hT.open
  have hlt := hT.lt
  have HT := Aside0.mk hT
  have HR := Aside0.mk hR
  have HL := Aside0.mk hl
  clear hT hR hl
  generalize X.l = l at *
  go_enter Try.func22, Try.ntmps22
  go_wp2_with (first
    | ((with_reducible refine gate_dst (N := 5) rfl ?_); refine Kd.R_lit (w0 := w) kM w.heap.size 30 ?hg (N := 5) ?hd (xs := ([] : List Msg)) (inner := []) (ok := fun k => w.heap.size ≤ k) (okp := fun k => w.heap.size ≤ k) ?hr (Reps.none _ _) (fun _ h => h) (Nat.le_refl _) (Below.refl _ _) (Nat.le_refl _) (by simp) ?_; (case hg => rfl); (case hd => rfl); (case hr => first | (go_simp; done) | (go_simp; rfl)); intro v3 w3 ho3 hb3 hg3 hat3; have hk3 := Aside0.mk ((Chg.refl (fun _ => False) w).grown hg3 (fun k e => by cases e)); have HO3 := Aside0.mk ho3; have HB3 := Aside0.mk hb3; have HR3 := Aside0.mk (HR.out.chg hk3.out (fun _ _ h => h)); have h2 := (hk3.out.cell (p := ⟨b, 1, none⟩) hlt).trans h1; clear h1 ho3 hb3 hg3 hat3; have h1 := h2; clear h2)
    | ((with_reducible refine gate_builtin (b := .append) (xs := #[.tmp 5, .tmp 9]) rfl ?_); at_builtin; refine Kd.R_append_rows kM (Rr := kM.K w3) w.heap.size rfl (.tmp 5) (.tmp 9) 22 30 (.agg #[.int .i64 0, .int .i64 0, .string ⟨#[]⟩]) 32 rfl Try.underlying22 infoM rfl (by decide) (by decide) v3 [] l A l.length k (fun k => w.heap.size ≤ k) (fun _ => False) rfl rfl HO3.out HR3.out.fC (fun x cs h => msgKM x cs h) (fun _ h => h.elim) (fun k hk => Nat.le_trans hk3.out.low.size hk) HB3.out hk3.out.low.size (by have := HL.out; simp; omega) ?_; intro v4 w4 ho4 hb4 hg4 hat4; have hk4 := Aside0.mk (hk3.out.grownN hg4 (fun k e => Kd.R_base HO3.out k e)); have HO4 := Aside0.mk ho4; clear h1 ho4 hb4 hg4 hat4))
  go_ret
  refine ⟨_, rfl, ?_, hk4.out⟩
  exact Kd.R_V (by simpa using HO4.out)

end Go.Proofs.Ytclmhodgfhkgcaa.Q

/- What must come at any rate: awake. -/
namespace Go.Proofs.Ytclmhodgfhkgcaa.Q
open Go.RowKit Go.Proofs.YtclmhodgfhkgcaaW.PrintWords Go.Proofs.YtclmhodgfhkgcaaW.PrintLast Go.Proofs.YtclmhodgfhkgcaaW.PrintMore
set_option linter.unusedVariables false
set_option linter.unusedSimpArgs false

theorem Chg.new {S S' : Nat → Prop} {a b c : World} (h : Chg S a b) (k : Chg S' b c) (hs : ∀ k, S' k → S k ∨ a.heap.size ≤ k) : Chg S a c :=
  ⟨h.low.trans k.low, fun i hi hn => (k.keep i (Nat.lt_of_lt_of_le hi h.low.size) (fun h' => by rcases hs i h' with h1 | h1; exact hn h1; omega)).trans (h.keep i hi hn)⟩
def aM : Msg := ⟨0, 1, ⟨#[97]⟩⟩
def aX (l : List Msg) (z : Int) : Nt := ⟨2, l, fun _ _ => false, z⟩
theorem two01 (l : List Msg) (z : Int) : Two (aX l z) 0 1 := by unfold Two aX; simp
theorem two10 (l : List Msg) (z : Int) : Two (aX l z) 1 0 := by unfold Two aX; simp
theorem a1 : nSend (X0 2) aM = (0, aX [aM] 0) := by
  unfold nSend
  rw [if_pos (show Two (X0 2) aM.f0 aM.f1 from two01 [] 0), if_neg (by decide), if_neg (by simp [isCut, X0]), if_neg (by simp [X0])]
  rfl
theorem a2 : nDouble (aX [aM] 0) 0 = (0, aX [aM, aM] 0) := by
  unfold nDouble
  rw [if_pos (by simp [Is, aX]), if_neg (by simp [aX])]
  rfl
theorem a3 : nDeliver (aX [aM, aM] 0) 0 = ((aM, 0), aX [aM] 0) := by
  unfold nDeliver
  rw [if_pos (by simp [Is, aX])]
  have e : rdM (aX [aM, aM] 0).l 0 = aM := rfl
  rw [e, if_pos (by unfold upB; rw [decide_eq_true (show Two (aX [aM, aM] 0) aM.f0 aM.f1 from two01 _ _)]; rfl)]
  rfl
theorem a4 : nDrop (aX [aM] 0) 0 = (0, aX [] 1) := by
  unfold nDrop
  rw [if_pos (by simp [Is, aX])]
  rfl
theorem a5 : upB (aX [] 1) 1 0 = true := by unfold upB; rw [decide_eq_true (two10 _ _)]; rfl
theorem a6 : upB (cutX (aX [] 1) 0 1 true) 1 0 = false := by
  have h : isCut (cutX (aX [] 1) 0 1 true) 1 0 = true := by
    show (if min (1 : Int) 0 = min 0 1 ∧ max (1 : Int) 0 = max 0 1 then true else false) = true
    rw [if_pos ⟨by omega, by omega⟩]
  unfold upB
  rw [h, Bool.not_true, Bool.and_false]
theorem aF (l : List Msg) (z : Int) (h : l.length ≤ 256) (h0 : 0 ≤ z) (h1 : z ≤ 2) : Fine (aX l z) := ⟨⟨by simp [aX], by simp [aX]⟩, h, h0, by simp only [aX]; omega⟩

set_option maxHeartbeats 4000000 in
set_option maxRecDepth 100000 in
theorem awake_calls (w : World) : Calls Try.prog 9 #[] w fun e w' => e = .returned (.bool true) ∧ Below w.heap.size w w' := by
  have HS := Aside0.mk (fun ok b c n w0 h k1 k2 => Send_calls ok b c n (X0 2) aM w0 h (aF [] 0 (by simp) (by omega) (by omega)) k1 k2)
  have HD := Aside0.mk (fun ok b c n w0 h k1 k2 => Double_calls ok b c n (aX [aM] 0) 0 w0 h k1 k2)
  have HV := Aside0.mk (fun ok b c n w0 h k1 k2 => Deliver_calls ok b c n (aX [aM, aM] 0) 0 w0 h (aF [aM, aM] 0 (by simp) (by omega) (by omega)) k1 k2)
  have HP := Aside0.mk (fun ok b c n w0 h k1 k2 => Drop_calls ok b c n (aX [aM] 0) 0 w0 h (aF [aM] 0 (by simp) (by omega) (by omega)) k1 k2)
  have HU := Aside0.mk (fun ok b c n w0 h => Up_calls ok b c n (aX [] 1) 1 0 w0 h (aF [] 1 (by simp) (by omega) (by omega)).few)
  have HW := Aside0.mk (fun ok b c n w0 h => Up_calls ok b c n (cutX (aX [] 1) 0 1 true) 1 0 w0 h (aF [] 1 (by simp) (by omega) (by omega)).few)
  have HC := Aside0.mk (fun ok b c n w0 h k1 => cut_yes ok b c n (aX [] 1) 0 1 w0 h (aF [] 1 (by simp) (by omega) (by omega)).few (two01 _ _) k1)
  rw [a1] at HS
  rw [a2] at HD
  rw [a3] at HV
  rw [a4] at HP
  rw [a5] at HU
  rw [a6] at HW
  obtain ⟨B, hB⟩ : ∃ B, w.heap.size = B := ⟨_, rfl⟩
  have HB := Aside0.mk hB
  clear hB
  have q1 : (aM.f2.toList == [97]) = true := by kernel_rfl
  go_enter Try.func9, Try.ntmps9
  go_wp2_with (first
    | (go_at_call 8; refine (New_ok 2 (by omega) (by omega) _).mono ?_; rintro e w1 ⟨rfl, hn, hb⟩; have HN1 := Aside0.mk (hn (fun k => k ≠ w.heap.size + 1 ∧ k ≠ w.heap.size)); have C1 := Aside0.mk (Chg.of_below hb (fun _ => False)); have HL := Aside0.mk HN1.out.lt; clear hn hb)
    | (go_at_call 10; refine (HS.out _ _ _ _ _ HN1.out (fun k hk => hk.1) (fun k hk => by have := HL.out; constructor <;> omega)).mono ?_; rintro e w2 ⟨rfl, hn, hc⟩; have HN2 := Aside0.mk hn; have C2 := Aside0.mk (C1.out.new hc (fun k e => .inr (by omega))); have HL2 := Aside0.mk hn.lt; clear hn hc HN1 C1 HL)
    | (go_at_call 12; refine (HD.out _ _ _ _ _ HN2.out (fun k hk => hk.1) (fun k hk => by have := HL2.out; constructor <;> omega)).mono ?_; rintro e w3 ⟨rfl, hn, hc⟩; have HN3 := Aside0.mk hn; have C3 := Aside0.mk (C2.out.new hc (fun k e => .inr (by omega))); have HL3 := Aside0.mk hn.lt; clear hn hc HN2 C2 HL2)
    | (go_at_call 14; refine (HV.out _ _ _ _ _ HN3.out (fun k hk => hk.1) (fun k hk => by have := HL3.out; constructor <;> omega)).mono ?_; rintro e w4 ⟨rfl, hn, hc⟩; have HN4 := Aside0.mk hn; have C4 := Aside0.mk (C3.out.new hc (fun k e => .inr (by omega))); have HL4 := Aside0.mk hn.lt; clear hn hc HN3 C3 HL3)
    | (go_at_call 13; refine (HP.out (fun k => k ≠ w.heap.size + 1 ∧ k ≠ w.heap.size) _ _ _ _ (HN4.out.ofBelow ((Chg.refl _ _).alloc _)) (fun k hk => hk.1) (fun k hk => by have := HL4.out; simp at hk; constructor <;> omega)).mono ?_; rintro e w5 ⟨rfl, hn, hc⟩; have HN5 := Aside0.mk hn; have C5 := Aside0.mk ((C4.out.alloc _).new hc (fun k e => .inr (by omega))); have HL5 := Aside0.mk hn.lt; clear hn hc HN4 C4 HL4)
    | (go_at_call 17; refine (Lost_calls _ _ _ _ _ _ HN5.out).mono ?_; rintro e w' ⟨rfl, rfl⟩)
    | (go_at_call 22; refine (Flying_calls _ _ _ _ _ _ HN5.out (by decide)).mono ?_; rintro e w6 ⟨v6, rfl, hv, hc⟩; have HN6 := Aside0.mk (HN5.out.ofBelow hc); have C6 := Aside0.mk (C5.out.new hc (fun k e => e.elim)); obtain ⟨A6, c6, rfl⟩ := Kd.V_slice hv; clear hv hc HN5 C5 HL5)
    | (go_at_call 18; refine (HU.out _ _ _ _ _ HN6.out).mono ?_; rintro e w7 ⟨rfl, hc⟩; have HN7 := Aside0.mk (HN6.out.ofBelow hc); have C7 := Aside0.mk (C6.out.new hc (fun k e => e.elim)); clear hc HN6 C6)
    | (go_at_call 23; refine (HC.out _ _ _ _ _ HN7.out (fun k hk => hk.2) (by decide)).mono ?_; rintro e w8 ⟨rfl, hn, hc⟩; have HN8 := Aside0.mk hn; have C8 := Aside0.mk (C7.out.new hc (fun k e => .inr (by omega))); clear hn hc HN7 C7)
    | (go_at_call 18; refine (HW.out _ _ _ _ _ HN8.out).mono ?_; rintro e w9 ⟨rfl, hc⟩; have C9 := Aside0.mk (C8.out.new hc (fun k e => e.elim)); clear hc HN8 C8))
  go_ret
  exact ⟨rfl, C9.out.below (Below.refl _ _) (Nat.le_refl _) (fun k h => h.elim)⟩

end Go.Proofs.Ytclmhodgfhkgcaa.Q
