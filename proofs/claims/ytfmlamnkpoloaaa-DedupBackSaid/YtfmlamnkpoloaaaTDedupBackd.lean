/- Texts of this session laid together (merge.py): YtfmlamnkpoloaaaDGot, YtfmlamnkpoloaaaERef, YtfmlamnkpoloaaaEGets, YtfmlamnkpoloaaaEPut, YtfmlamnkpoloaaaEDo, YtfmlamnkpoloaaaEPure, YtfmlamnkpoloaaaFMade, YtfmlamnkpoloaaaFKept. -/
import Derived.Test.YtfmlamnkpoloaaaTDedupBackc
/- The contract of the table's Got. -/
namespace Go.Proofs.Ytfmlamnkpoloaaa.Q
open Go.RowKit Go.Proofs.YtfmlamnkpoloaaaW.PrintWords Go.Proofs.YtfmlamnkpoloaaaW.PrintLast Go.Proofs.YtfmlamnkpoloaaaW.PrintMore
set_option linter.unusedVariables false
set_option linter.unusedSimpArgs false

theorem Chg.grownN {S : Nat → Prop} {a b c : World} {row : Option Nat} (h : Chg S a b) (hg : b.grownBy c row) (hr : ∀ k, row = some k → a.heap.size ≤ k) : Chg S a c :=
  ⟨h.low.grown hg (Nat.zero_le _) (fun k hk => Nat.zero_le _), fun k hk hn => (hg.block k (Nat.lt_of_lt_of_le hk h.low.size) (fun e => by have := hr k e.symm; omega)).trans (h.keep k hk hn)⟩
theorem Chg.cell {w w' : World} (h : Chg (fun _ => False) w w') {p : Addr} (hp : p.block < w.heap.size) : w'.cell? p = w.cell? p := World.cell?_of_block (w := w) (h.keep p.block hp (fun h => h))
theorem Chg.frozen {w w' : World} (h : Chg (fun _ => False) w w') {p : Addr} (hp : p.block < w.heap.size) : w'.frozen? p = w.frozen? p := World.frozen?_of_block (w := w) (h.keep p.block hp (fun h => h))
theorem RowI.cut {w : World} {ok : Nat → Prop} {A : Option Addr} {n c j : Nat} {xs : List Int} (h : RowI w ok (.slice A n c) xs) (hj : j ≤ n) : ∃ A2, (∀ W, (Instr.sliceAt 26 (.slice A n c) (some (.int .i64 (j : Int))) Option.none Option.none).run Try.prog W = .ok (.slice A2 (n - j) (c - j)) W) ∧ RowI w ok (.slice A2 (n - j) (c - j)) (xs.drop j) := by
  obtain ⟨hx, hle, hF⟩ := Kd.V_at h
  subst hx
  have hu : Try.prog.underlying 26 = some (.slice (Try.prog.elem 26)) := by kernel_rfl
  have hd : (xs.drop j).length = xs.length - j := by simp
  have hv := Kd.V_mk (e := 3) (base := 0) (c := c - j) (by omega) (Kd.F_cut hF hj hle)
  rw [hd] at hv
  have h1 : (Kd.int .i64).sz = 1 := rfl
  rw [h1] at hv
  refine ⟨_, fun W => ?_, hv⟩
  have hs : (sizeOf (Try.prog.elem 26)).run Try.prog W = .ok 1 W := by kernel_rfl
  rw [run_sliceAt_slice (P := Try.prog) (w := W) 26 _ _ _ _ hu, run_slice_l (P := Try.prog) (w := W) 26 A xs.length c hu .i64 (j : Int) (by omega) (by omega), hs]
  simp only [Result.andThen, sliced, Int.toNat_natCast]
set_option maxHeartbeats 2000000 in
theorem got_last (ok : Nat → Prop) (t m : Nat) (hm : m < 6) (T : Tb) (upto : Int) (w : World) (hT : TabAt ok w t T) (hF : ∀ m, m < 6 → Fine (T m)) (hok : ∀ k, ok k → k ≠ t) (hnew : ∀ k, w.heap.size ≤ k → ok k) (c1 : ¬ upto < 0) (c2 : ¬ nextOf (T m) ≤ upto) (c3 : (T m).got < upto) :
    Calls Try.prog 11 #[.pointer (some ⟨t, 0, none⟩), .int .i64 (m : Int), .int .i64 upto] w fun e w' => e = .returned (.int .i64 0) ∧ TabAt ok w' t (T.upd m ⟨upto, (T m).codes.drop (upto - (T m).got).toNat⟩) ∧ Chg (fun k => k = t) w w' := by
  obtain ⟨hc0, ⟨A, c, hc1, hlc, hR⟩, hfz⟩ := hT.cells hm
  have hlt := hT.lt
  have hf := hF m hm
  have hf0 := hf.1
  have hf1 := hf.2.1
  have hf2 := hf.2.2
  have hfr0 := hfz (m * 2)
  have hfr := hfz (m * 2 + 1)
  have HT := Aside0.mk hT
  have HN := Aside0.mk hnew
  have HO := Aside0.mk hok
  unfold nextOf at c2
  clear hT hF hf hfz hnew hok
  generalize hg : (T m).got = g at *
  have HG := Aside0.mk hg
  clear hg
  generalize (T m).codes = l at *
  obtain ⟨j, hj⟩ : ∃ j : Nat, upto - g = j := ⟨(upto - g).toNat, by omega⟩
  obtain ⟨A2, hsl, hR2⟩ := hR.cut (j := j) (by omega)
  have HR := Aside0.mk hR2
  have HJ := Aside0.mk hj
  have s1 : IntKind.i64.wrap (upto - g) = (j : Int) := by rw [hj]; exact IntWalk.i64_in _ (by omega)
  have e1 : 0 ≤ upto := by omega
  clear hR hR2
  rw [hj, Int.toNat_natCast]
  clear hj
  go_enter Try.func11, Try.ntmps11
  go_wp2_with (first | (go_at_call 26; refine (find_ok t m hm _).mono ?_; rintro e w' ⟨rfl, rfl⟩) | (go_at_call 27; refine (next_calls t (m * 2) g A _ c _ hf0 hf1 (by exact hc0) (by exact hc1)).mono ?_; rintro e w' ⟨rfl, k, rfl⟩))
  refine wp_plan [(0, 0, 35), (2, 0, 37), (3, 0, 38), (4, 0, 39), (5, 0, 40), (6, 0, 41), (7, 0, 42), (8, 0, 43), (9, 0, 44), (10, 0, 45), (11, 0, 46), (12, 0, 47), (1, 2, 36), (13, 2, 48), (14, 1, 49), (15, 1, 50), (16, 3, 0)] [16] (fun W => W.cell? ⟨t, m * 2, none⟩ = some (.int .i64 g) ∧ W.cell? ⟨t, m * 2 + 1, none⟩ = some (.slice A l.length c)) (by kernel_rfl) rfl (by kernel_rfl) (fun _ t _ _ _ h => by cases t <;> exact h) ⟨hc0, hc1⟩ (fun hS => ?_)
  repeat (refine RP.take (v := ?_) (a' := ?_) rfl rfl (by assumption) (Or.inl ⟨by rfl, ?_⟩) ?_ ?_; rotate_left; (focus (rintro w' ⟨hS0, hS1⟩; go_simp; with_reducible rfl)); rotate_left; (focus (simp only [Act.put, List.setIfInBounds_toArray, List.set_cons_zero, List.set_cons_succ, i64_w, i32_w]; rfl)))
  refine RP.one rfl rfl (fun K hK => ?_)
  refine Kd.R_lit_step (w0 := w) (Kd.int .i64) w.heap.size 3 (by rfl) (N := 36) (by rfl) (xs := ([] : List Int)) (inner := []) (ok := ok) (okp := ok) ?hr (Reps.none _ _) (fun _ h => h) (HN.out _ (Nat.le_refl _)) (pw_below_drewN (pw_below_drewN (Below.refl _ _) _) _) (Nat.le_refl _) (by simp) ?_
  case hr =>
    go_simp
  intro v1 w1 ho1 hb1 hg1 hat1
  have hk1 := Chg.grown (((Chg.refl (fun _ => False) w).drewN _).drewN _) hg1
  refine hK.out _ _ ⟨(hg1.cell_far _ hlt (by simp)).trans hc0, (hg1.cell_far _ hlt (by simp)).trans hc1⟩ (fun hS => ?_)
  clear hK K
  refine RP.norm (a' := ?_) ?_ ?_
  rotate_left
  · show Act.put _ (some 36) _ = _
    simp only [Act.put, List.setIfInBounds_toArray, List.set_cons_zero, List.set_cons_succ, i64_w, i32_w]
    rfl
  refine RP.one rfl rfl (fun K hK => ?_)
  have HR1 := HR.out.chg hk1 (fun _ _ h => h)
  have hF1 := Kd.F_now (Kd.V_at HR1).2.2
  rw [← (Kd.V_at HR1).1] at hF1
  refine Kd.R_append_rows_step (Kd.int .i64) (Rr := (Kd.int .i64).K w1) w.heap.size (by rfl) (.tmp 36) (.tmp 47) 26 3 (.int .i64 0) 8 (by rfl) Try.underlying26 infoI rfl (by decide) (by decide) v1 [] (l.drop j) A2 (l.length - j) (c - j) ok (fun _ => False) (by rfl) (by rfl) ho1 hF1 (fun _ _ h => h) (fun _ h => h.elim) (fun k hk => HN.out k (Nat.le_trans hk1.low.size hk)) hb1 hk1.low.size (by simp; omega) ?_
  intro v2 w2 ho2 hb2 hg2 hat2
  have hat3 : ∀ k', v1.ownBlock = some k' → w.heap.size ≤ k' := fun k' e => by obtain ⟨b, h1, h2⟩ := hat1; rw [h1] at e; cases e; exact h2
  have hk2 := hk1.grownN hg2 hat3
  have hb3 : ∀ j, w2.cell? ⟨t, j, none⟩ = w.cell? ⟨t, j, none⟩ := fun j => hk2.cell (p := ⟨t, j, none⟩) hlt
  have hz3 : ∀ j, w2.frozen? ⟨t, j, none⟩ = w.frozen? ⟨t, j, none⟩ := fun j => hk2.frozen (p := ⟨t, j, none⟩) hlt
  have hcz0 := (hb3 (m * 2)).trans hc0
  have hcz1 := (hb3 (m * 2 + 1)).trans hc1
  have hfz0 := (hz3 (m * 2)).trans hfr0
  have hfz1 := (hz3 (m * 2 + 1)).trans hfr
  clear hb3 hz3
  refine hK.out _ _ ⟨hcz0, hcz1⟩ (fun hS => ?_)
  clear hK K
  have HK2 := Aside0.mk hk2
  have hrow : RowI w2 ok v2 (l.drop j) := Kd.R_V (by simpa using ho2)
  obtain ⟨A3, c3, rfl⟩ := Kd.V_slice hrow
  have HR2 := Aside0.mk hrow
  clear hF1 hk2 hrow ho2 hb2 hg2 hat2 hat3 hk1 ho1 hb1 hg1 hat1 HR1
  refine RP.norm (a' := ?_) ?_ ?_
  rotate_left
  · simp only [Act.put, List.setIfInBounds_toArray, List.set_cons_zero, List.set_cons_succ, i64_w, i32_w]
    rfl
  repeat (refine RP.pure (v := ?_) (a' := ?_) rfl rfl (Or.inl ⟨by rfl, ?_⟩) ?_ ?_; rotate_left; (focus (intro w'; go_simp; with_reducible rfl)); rotate_left; (focus (simp only [Act.put, List.setIfInBounds_toArray, List.set_cons_zero, List.set_cons_succ, i64_w, i32_w]; rfl)))
  refine RP.last rfl rfl (fun K hK => ?_)
  go_simp
  refine hK.out _ _ (RP.nil ?_)
  clear hK K
  go_wp2
  go_ret
  refine ⟨rfl, ?_, Chg.set (S := fun k => k = t) (p := ⟨t, m * 2, none⟩) (Chg.set (S := fun k => k = t) (p := ⟨t, m * 2 + 1, none⟩) (HK2.out.mono (fun _ h => h.elim)) (.inl rfl) _) (.inl rfl) _⟩
  have h1 := (HT.out.chg HK2.out (fun h => h) (fun _ _ h => h)).setCodes HO.out hm HR2.out
  have h2 := h1.setGot (g := upto) HO.out hm
  have e2 : (Tb.upd T m ⟨(T m).got, l.drop j⟩).upd m ⟨upto, (Tb.upd T m ⟨(T m).got, l.drop j⟩ m).codes⟩ = T.upd m ⟨upto, l.drop j⟩ := by
    funext n
    unfold Tb.upd
    by_cases e : n = m
    · subst e; simp
    · simp [e]
  have hd : (l.drop j).length = l.length - j := by simp
  rw [e2, hd] at h2
  exact h2
set_option maxHeartbeats 2000000 in
theorem got_not (ok : Nat → Prop) (t m : Nat) (hm : m < 6) (T : Tb) (upto r : Int) (w : World) (hT : TabAt ok w t T) (hF : ∀ m, m < 6 → Fine (T m))
    (h : upto < 0 ∧ r = 3 ∨ (¬ upto < 0 ∧ nextOf (T m) ≤ upto ∧ r = 3) ∨ (¬ upto < 0 ∧ ¬ nextOf (T m) ≤ upto ∧ ¬ (T m).got < upto ∧ r = 0)) :
    Calls Try.prog 11 #[.pointer (some ⟨t, 0, none⟩), .int .i64 (m : Int), .int .i64 upto] w fun e w' => e = .returned (.int .i64 r) ∧ ∃ k, w' = w.drewN k := by
  obtain ⟨hc0, ⟨A, c, hc1, hlc, -⟩, -⟩ := hT.cells hm
  have hf := hF m hm
  have hf0 := hf.1
  have hf1 := hf.2.1
  unfold nextOf at h
  clear hT hF hf
  generalize (T m).got = g at *
  generalize (T m).codes = l at *
  rcases h with ⟨h1, rfl⟩ | ⟨h1, h2, rfl⟩ | ⟨h1, h2, h3, rfl⟩
  all_goals
    go_enter Try.func11, Try.ntmps11
    go_wp2_with (first | (go_at_call 26; refine (find_ok t m hm _).mono ?_; rintro e w' ⟨rfl, rfl⟩) | (go_at_call 27; refine (next_calls t (m * 2) g A _ c _ hf0 hf1 (by exact hc0) (by exact hc1)).mono ?_; rintro e w' ⟨rfl, k, rfl⟩))
  all_goals go_ret
  all_goals exact ⟨rfl, by first | exact ⟨_, rfl⟩ | exact ⟨0, rfl⟩⟩
theorem Got_calls (ok : Nat → Prop) (t : Nat) (T : Tb) (n upto : Int) (w : World) (hT : TabAt ok w t T) (hF : ∀ m, m < 6 → Fine (T m)) (hok : ∀ k, ok k → k ≠ t) (hnew : ∀ k, w.heap.size ≤ k → ok k) :
    Calls Try.prog 11 #[.pointer (some ⟨t, 0, none⟩), .int .i64 n, .int .i64 upto] w fun e w' => e = .returned (.int .i64 (dGot T n upto).1) ∧ TabAt ok w' t (dGot T n upto).2 ∧ Chg (fun k => k = t) w w' := by
  have quiet : ∀ {r : Int} {n : Int}, (Calls Try.prog 11 #[.pointer (some ⟨t, 0, none⟩), .int .i64 n, .int .i64 upto] w fun e w' => e = .returned (.int .i64 r) ∧ ∃ k, w' = w.drewN k) →
      Calls Try.prog 11 #[.pointer (some ⟨t, 0, none⟩), .int .i64 n, .int .i64 upto] w fun e w' => e = .returned (.int .i64 r) ∧ TabAt ok w' t T ∧ Chg (fun k => k = t) w w' := by
    intro r n h
    refine h.mono fun e w' he => ?_
    obtain ⟨he, k, rfl⟩ := he
    have hc := (Chg.refl (fun k : Nat => False) w).drewN k
    exact ⟨he, hT.chg hc (fun h => h) (fun _ _ h => h), hc.mono (fun _ h => h.elim)⟩
  by_cases hn : isC n
  · obtain ⟨m, hm, rfl⟩ := isC_nat hn
    unfold dGot
    rw [if_pos hn, Int.toNat_natCast]
    by_cases h1 : upto < 0 ∨ nextOf (T m) ≤ upto
    · rw [if_pos h1]
      exact quiet (got_not ok t m hm T upto 3 w hT hF (by omega))
    · rw [if_neg h1]
      by_cases h2 : (T m).got < upto
      · rw [if_pos h2]
        exact got_last ok t m hm T upto w hT hF hok hnew (by omega) (by omega) h2
      · rw [if_neg h2]
        exact quiet (got_not ok t m hm T upto 0 w hT hF (by omega))
  · have e : dGot T n upto = (14, T) := if_neg hn
    rw [e]
    refine quiet ?_
    have hn := not_isC hn
    clear e quiet hT hF hok hnew
    go_enter Try.func11, Try.ntmps11
    go_wp2_with (go_at_call 26; refine (find_bad t n hn _).mono ?_; rintro e w' ⟨rfl, rfl⟩)
    go_ret
    exact ⟨rfl, 0, rfl⟩

end Go.Proofs.Ytfmlamnkpoloaaa.Q

/- The reference's table in memory; its New, Next, Code. -/
namespace Go.Proofs.Ytfmlamnkpoloaaa.Q
open Go.RowKit Go.Proofs.YtfmlamnkpoloaaaW.PrintWords Go.Proofs.YtfmlamnkpoloaaaW.PrintLast Go.Proofs.YtfmlamnkpoloaaaW.PrintMore
set_option linter.unusedVariables false
set_option linter.unusedSimpArgs false

structure Rc where
  codes : List Int
  ahead : Int
  got : Int
abbrev Rb := Nat → Rc
def Rb.upd (X : Rb) (n : Nat) (c : Rc) : Rb := fun m => if m = n then c else X m
structure RefAt (ok : Nat → Prop) (w : World) (x xl : Nat) (X : Rb) : Prop where
  mk ::
  top : w.heap[x]? = some (.cells #[.slice (some ⟨xl, 0, none⟩) 6 6] 65 (0, 0))
  all : ∃ cs : Array Value, w.heap[xl]? = some (.cells cs 67 (0, 0)) ∧ cs.size = 18 ∧ ∀ n, n < 6 → (∃ v, cs[n * 3]? = some v ∧ RowI w ok v (X n).codes) ∧ cs[n * 3 + 1]? = some (.int .i64 (X n).ahead) ∧ cs[n * 3 + 2]? = some (.int .i64 (X n).got)
theorem RefAt.chg {w w' : World} {ok S : Nat → Prop} {x xl : Nat} {X : Rb} (h : RefAt ok w x xl X) (hc : Chg S w w') (hx : ¬ S x) (hxl : ¬ S xl) (hs : ∀ k, ok k → ¬ S k) : RefAt ok w' x xl X := by
  obtain ⟨cs, hb, hz, ha⟩ := h.all
  refine ⟨(hc.keep x (blk_lt h.top) hx).trans h.top, cs, (hc.keep xl (blk_lt hb) hxl).trans hb, hz, fun n hn => ?_⟩
  obtain ⟨⟨v, h2, h3⟩, h4⟩ := ha n hn
  exact ⟨⟨v, h2, h3.chg hc hs⟩, h4⟩
theorem RefAt.lt {w : World} {ok : Nat → Prop} {x xl : Nat} {X : Rb} (h : RefAt ok w x xl X) : x < w.heap.size ∧ xl < w.heap.size := by
  obtain ⟨cs, hb, -⟩ := h.all
  exact ⟨blk_lt h.top, blk_lt hb⟩
theorem RefAt.cells {w : World} {ok : Nat → Prop} {x xl : Nat} {X : Rb} (h : RefAt ok w x xl X) {n : Nat} (hn : n < 6) :
    w.cell? ⟨x, 0, none⟩ = some (.slice (some ⟨xl, 0, none⟩) 6 6) ∧ (∃ A c, w.cell? ⟨xl, n * 3, none⟩ = some (.slice A (X n).codes.length c) ∧ (X n).codes.length ≤ c ∧ RowI w ok (.slice A (X n).codes.length c) (X n).codes) ∧ w.cell? ⟨xl, n * 3 + 1, none⟩ = some (.int .i64 (X n).ahead) ∧ w.cell? ⟨xl, n * 3 + 2, none⟩ = some (.int .i64 (X n).got) ∧ (∀ j, w.frozen? ⟨xl, j, none⟩ = false) := by
  obtain ⟨cs, hb, hz, ha⟩ := h.all
  obtain ⟨⟨v, h2, h3⟩, h4, h5⟩ := ha n hn
  obtain ⟨A, c, rfl⟩ := Kd.V_slice h3
  exact ⟨(blk_cell h.top _).trans rfl, ⟨A, c, (blk_cell hb _).trans h2, (Kd.V_at h3).2.1, h3⟩, (blk_cell hb _).trans h4, (blk_cell hb _).trans h5, fun j => blk_frozen hb j⟩
def RFine (c : Rc) : Prop := 0 ≤ c.ahead ∧ c.ahead ≤ c.got ∧ c.got ≤ c.ahead + c.codes.length ∧ c.ahead + c.codes.length ≤ 1152921504606846976 ∧ c.codes.length ≤ 1099511627776
def rnextOf (c : Rc) : Int := c.ahead + c.codes.length + 1
def rNext (X : Rb) (n : Int) : Int := if isC n then rnextOf (X n.toNat) else 0
def rCode (X : Rb) (n seq : Int) : Int × Int :=
  if isC n then
    if seq < 1 ∨ rnextOf (X n.toNat) ≤ seq then (0, 8) else if seq ≤ (X n.toNat).got then (0, 13) else (rd (X n.toNat).codes (seq - 1 - (X n.toNat).ahead), 0)
  else (0, 14)
def X0 : Rb := fun _ => ⟨[], 0, 0⟩
theorem is_calls (n : Int) (w : World) : Calls Try.prog 10 #[.int .i64 n] w fun e w' => e = .returned (.bool (decide (isC n))) ∧ w = w' := by
  by_cases h : isC n
  · have e : decide (isC n) = true := decide_eq_true h
    rw [e]
    unfold isC at h
    obtain ⟨h1, h2⟩ := h
    clear e
    go_enter Try.func10, Try.ntmps10
    go_wp2
    go_ret
    exact ⟨rfl, rfl⟩
  · have e : decide (isC n) = false := decide_eq_false h
    rw [e]
    have h := not_isC h
    clear e
    rcases h with h | h
    all_goals
      go_enter Try.func10, Try.ntmps10
      go_wp2
      go_ret
      exact ⟨ret_bool (by first | rfl | (simp; omega)), rfl⟩
theorem is_yes (n : Nat) (hn : n < 6) (w : World) : Calls Try.prog 10 #[.int .i64 (n : Int)] w fun e w' => e = .returned (.bool true) ∧ w = w' := by
  have h := is_calls n w
  rw [decide_eq_true (show isC (n : Int) by unfold isC; omega)] at h
  exact h
theorem is_no (n : Int) (hn : ¬ isC n) (w : World) : Calls Try.prog 10 #[.int .i64 n] w fun e w' => e = .returned (.bool false) ∧ w = w' := by
  have h := is_calls n w
  rw [decide_eq_false hn] at h
  exact h
theorem make_six (w : World) : (Instr.makeSlice 63 (.int .i64 6) (.int .i64 6)).run Try.prog w = .ok (.slice (some ⟨w.heap.size, 0, none⟩) 6 6) (w.alloc (.cells #[.slice none 0 0, .int .i64 0, .int .i64 0, .slice none 0 0, .int .i64 0, .int .i64 0, .slice none 0 0, .int .i64 0, .int .i64 0, .slice none 0 0, .int .i64 0, .int .i64 0, .slice none 0 0, .int .i64 0, .int .i64 0, .slice none 0 0, .int .i64 0, .int .i64 0] 67)) := by kernel_rfl
set_option maxHeartbeats 1000000 in
set_option maxRecDepth 100000 in
theorem rnew_calls (w : World) : Calls Try.prog 17 #[] w fun e w' => e = .returned (.pointer (some ⟨w.heap.size + 1, 0, none⟩)) ∧ (∀ ok, RefAt ok w' (w.heap.size + 1) w.heap.size X0) ∧ Below w.heap.size w w' ∧ w'.heap.size = w.heap.size + 2 := by
  have hmk := make_six
  go_enter Try.func17, Try.ntmps17
  go_wp2
  go_ret
  refine ⟨rfl, fun ok => ⟨by rw [show w.heap.size + 1 = (w.alloc (.cells #[.slice none 0 0, .int .i64 0, .int .i64 0, .slice none 0 0, .int .i64 0, .int .i64 0, .slice none 0 0, .int .i64 0, .int .i64 0, .slice none 0 0, .int .i64 0, .int .i64 0, .slice none 0 0, .int .i64 0, .int .i64 0, .slice none 0 0, .int .i64 0, .int .i64 0] 67)).heap.size by simp]; exact blk_new _ _, _, blk_alloc (blk_new _ _) _, by simp, fun n hn => ?_⟩, below_alloc (below_alloc (Below.refl _ _) _) _, by simp⟩
  rcases n with _ | _ | _ | _ | _ | _ | n
  case succ.succ.succ.succ.succ.succ => omega
  all_goals exact ⟨⟨_, rfl, Kd.V_nil _ _ _ _ _⟩, rfl, rfl⟩
set_option maxHeartbeats 1000000 in
theorem rNext_calls (ok : Nat → Prop) (x xl : Nat) (X : Rb) (n : Int) (w : World) (hX : RefAt ok w x xl X) (hF : ∀ m, m < 6 → RFine (X m)) :
    Calls Try.prog 18 #[.pointer (some ⟨x, 0, none⟩), .int .i64 n] w fun e w' => e = .returned (.int .i64 (rNext X n)) ∧ ∃ k, w' = w.drewN k := by
  by_cases hn : isC n
  · obtain ⟨m, hm, rfl⟩ := isC_nat hn
    obtain ⟨hc0, ⟨A, c, hc1, -, -⟩, hc2, -, -⟩ := hX.cells hm
    have hf := hF m hm
    have e : rNext X m = (X m).ahead + ((X m).codes.length : Int) + 1 := by rw [rNext, if_pos hn, rnextOf, Int.toNat_natCast]
    have E := Aside0.mk e
    have b1 := hf.1
    have b2 := hf.2.2.2.1
    have b3 : (0 : Int) ≤ (m : Int) := by omega
    have b4 : (m : Int) < 6 := by omega
    have s1 : IntKind.i64.wrap ((X m).ahead + ((X m).codes.length : Int)) = (X m).ahead + ((X m).codes.length : Int) := IntWalk.i64_in _ (by omega)
    have s2 : IntKind.i64.wrap ((X m).ahead + ((X m).codes.length : Int) + 1) = (X m).ahead + ((X m).codes.length : Int) + 1 := IntWalk.i64_in _ (by omega)
    clear e hn hf hF
    go_enter Try.func18, Try.ntmps18
    go_wp2_with (go_at_call 10; refine (is_yes m hm _).mono ?_; rintro e w' ⟨rfl, rfl⟩)
    go_quiet (fail)
    go_wp2
    go_ret
    exact ⟨ret_int E.out.symm, _, rfl⟩
  · have E := Aside0.mk (show rNext X n = 0 from if_neg hn)
    have HN := Aside0.mk hn
    clear hX hF hn
    go_enter Try.func18, Try.ntmps18
    go_wp2_with (go_at_call 10; refine (is_no n HN.out _).mono ?_; rintro e w' ⟨rfl, rfl⟩)
    go_ret
    exact ⟨ret_int E.out.symm, 0, rfl⟩

set_option maxHeartbeats 2000000 in
theorem rCode_calls (ok : Nat → Prop) (x xl : Nat) (X : Rb) (n seq : Int) (w : World) (hX : RefAt ok w x xl X) (hF : ∀ m, m < 6 → RFine (X m)) :
    Calls Try.prog 30 #[.pointer (some ⟨x, 0, none⟩), .int .i64 n, .int .i64 seq] w fun e w' => e = .returned (.tuple #[.int .i64 (rCode X n seq).1, .int .i64 (rCode X n seq).2]) ∧ ∃ k, w' = w.drewN k := by
  by_cases hn : isC n
  · obtain ⟨m, hm, rfl⟩ := isC_nat hn
    obtain ⟨hc0, ⟨A, c, hc1, hlc, hR⟩, hc2, hc3, -⟩ := hX.cells hm
    have hf := hF m hm
    have HN := fun w' (h : RefAt ok w' x xl X) => rNext_calls ok x xl X m w' h hF
    have eN : rNext X m = (X m).ahead + ((X m).codes.length : Int) + 1 := by rw [rNext, if_pos hn, rnextOf, Int.toNat_natCast]
    rw [eN] at HN
    have HNX := Aside0.mk (HN w hX)
    have f1 := hf.1
    have f2 := hf.2.1
    have f3 := hf.2.2.1
    have f4 := hf.2.2.2.1
    have e : rCode X m seq = if seq < 1 ∨ rnextOf (X m) ≤ seq then (0, 8) else if seq ≤ (X m).got then (0, 13) else (rd (X m).codes (seq - 1 - (X m).ahead), 0) := by rw [rCode, if_pos hn, Int.toNat_natCast]
    rw [e]
    unfold rnextOf
    clear e hn hX hF hf HN eN
    generalize (X m).got = g at *
    generalize (X m).ahead = h at *
    generalize (X m).codes = l at *
    have b3 : (0 : Int) ≤ (m : Int) := by omega
    have b4 : (m : Int) < 6 := by omega
    by_cases h1 : seq < 1
    · rw [if_pos (.inl h1)]
      go_enter Try.func30, Try.ntmps30
      go_wp2_with (first | (go_at_call 10; refine (is_yes m hm _).mono ?_; rintro e w' ⟨rfl, rfl⟩))
      go_ret2
      exact ⟨rfl, 0, rfl⟩
    · by_cases h2 : h + (l.length : Int) + 1 ≤ seq
      · rw [if_pos (.inr h2)]
        go_enter Try.func30, Try.ntmps30
        go_wp2_with (first | (go_at_call 10; refine (is_yes m hm _).mono ?_; rintro e w' ⟨rfl, rfl⟩) | (go_at_call 18; refine HNX.out.mono ?_; rintro e w' ⟨rfl, k, rfl⟩))
        go_ret2
        exact ⟨rfl, _, rfl⟩
      · rw [if_neg (by omega)]
        by_cases h3 : seq ≤ g
        · rw [if_pos h3]
          go_enter Try.func30, Try.ntmps30
          go_wp2_with (first | (go_at_call 10; refine (is_yes m hm _).mono ?_; rintro e w' ⟨rfl, rfl⟩) | (go_at_call 18; refine HNX.out.mono ?_; rintro e w' ⟨rfl, k, rfl⟩))
          all_goals (try (go_quiet (fail); go_wp2))
          all_goals go_ret2
          all_goals exact ⟨rfl, _, rfl⟩
        · rw [if_neg h3]
          obtain ⟨j, hj⟩ : ∃ j : Nat, seq - 1 - h = j := ⟨(seq - 1 - h).toNat, by omega⟩
          rw [hj]
          obtain ⟨ad, rfl, hcell⟩ := hR.cell (j : Int) (by omega) (by omega)
          rw [Int.toNat_natCast] at hcell
          have i1 : (0 : Int) ≤ (j : Int) := by omega
          have i2 : (j : Int) < (l.length : Int) := by omega
          have s1 : IntKind.i64.wrap (seq - 1) = seq - 1 := IntWalk.i64_in _ (by omega)
          have s2 : IntKind.i64.wrap (seq - 1 - h) = (j : Int) := by rw [IntWalk.i64_in _ (by omega), hj]
          clear hj hR
          go_enter Try.func30, Try.ntmps30
          go_wp2_with (first | (go_at_call 10; refine (is_yes m hm _).mono ?_; rintro e w' ⟨rfl, rfl⟩) | (go_at_call 18; refine HNX.out.mono ?_; rintro e w' ⟨rfl, k, rfl⟩))
          go_region_held3 (fun w' => w'.cell? ⟨x, 0, none⟩ = some (.slice (some ⟨xl, 0, none⟩) 6 6) ∧ w'.cell? ⟨xl, m * 3, none⟩ = some (.slice (some ad) l.length c) ∧ w'.cell? ⟨xl, m * 3 + 1, none⟩ = some (.int .i64 h) ∧ w'.cell? (ad.add j) = some (.int .i64 (rd l (j : Int)))) (go_keep) (fail)
          go_wp2
          go_ret2
          exact ⟨rfl, k + 1, rfl⟩
  · have e : rCode X n seq = (0, 14) := if_neg hn
    rw [e]
    clear e
    show Calls _ _ _ _ fun e w' => e = .returned (.tuple #[.int .i64 0, .int .i64 14]) ∧ ∃ k, w' = w.drewN k
    have HN := Aside0.mk hn
    clear hX hF hn
    go_enter Try.func30, Try.ntmps30
    go_wp2_with (go_at_call 10; refine (is_no n HN.out _).mono ?_; rintro e w' ⟨rfl, rfl⟩)
    go_ret2
    exact ⟨rfl, 0, rfl⟩

end Go.Proofs.Ytfmlamnkpoloaaa.Q

/- The reference's Gets. -/
namespace Go.Proofs.Ytfmlamnkpoloaaa.Q
open Go.RowKit Go.Proofs.YtfmlamnkpoloaaaW.PrintWords Go.Proofs.YtfmlamnkpoloaaaW.PrintLast Go.Proofs.YtfmlamnkpoloaaaW.PrintMore
attribute [local go_sem] max2_int max_two
set_option linter.unusedVariables false
set_option linter.unusedSimpArgs false

def rGets (X : Rb) (n upto : Int) : Int × Rb :=
  if isC n then
    if upto < 0 ∨ rnextOf (X n.toNat) ≤ upto then (3, X) else (0, X.upd n.toNat ⟨(X n.toNat).codes, (X n.toNat).ahead, if (X n.toNat).got < upto then upto else (X n.toNat).got⟩)
  else (14, X)
theorem RefAt.setGot {w : World} {ok : Nat → Prop} {x xl m : Nat} {X : Rb} {g : Int} (h : RefAt ok w x xl X) (hok : ∀ k, ok k → k ≠ xl) (hne : x ≠ xl) (hm : m < 6) : RefAt ok (w.setCell ⟨xl, m * 3 + 2, none⟩ (.int .i64 g)) x xl (X.upd m ⟨(X m).codes, (X m).ahead, g⟩) := by
  obtain ⟨cs, hb, hz, ha⟩ := h.all
  refine ⟨blk_far h.top hne _, _, blk_set hb _ _, by simpa using hz, fun n hn => ?_⟩
  obtain ⟨⟨v, h2, h3⟩, h4, h5⟩ := ha n hn
  unfold Rb.upd
  by_cases e : n = m
  · subst e
    rw [if_pos rfl]
    refine ⟨⟨v, ?_, h3.far hok _⟩, ?_, ?_⟩
    · rw [Array.getElem?_setIfInBounds_ne (by omega)]; exact h2
    · rw [Array.getElem?_setIfInBounds_ne (by omega)]; exact h4
    · rw [Array.getElem?_setIfInBounds_self_of_lt (by omega)]
  · rw [if_neg e]
    refine ⟨⟨v, ?_, h3.far hok _⟩, ?_, ?_⟩
    · rw [Array.getElem?_setIfInBounds_ne (by omega)]; exact h2
    · rw [Array.getElem?_setIfInBounds_ne (by omega)]; exact h4
    · rw [Array.getElem?_setIfInBounds_ne (by omega)]; exact h5

set_option maxHeartbeats 2000000 in
theorem rgets_last (ok : Nat → Prop) (x xl : Nat) (X : Rb) (m : Nat) (hm : m < 6) (upto : Int) (w : World) (hX : RefAt ok w x xl X) (hF : ∀ m, m < 6 → RFine (X m)) (hok : ∀ k, ok k → k ≠ xl) (hne : x ≠ xl) (c1 : ¬ upto < 0) (c2 : ¬ rnextOf (X m) ≤ upto) (mx : Int) (hmx : mx = if (X m).got < upto then upto else (X m).got) :
    Calls Try.prog 29 #[.pointer (some ⟨x, 0, none⟩), .int .i64 (m : Int), .int .i64 upto] w fun e w' => e = .returned (.int .i64 0) ∧ RefAt ok w' x xl (X.upd m ⟨(X m).codes, (X m).ahead, mx⟩) ∧ Chg (fun k => k = xl) w w' := by
  obtain ⟨hc0, ⟨A, c, hc1, hlc, -⟩, hc2, hc3, hfz⟩ := hX.cells hm
  have hfr := hfz (m * 3 + 2)
  have eN : rNext X m = (X m).ahead + ((X m).codes.length : Int) + 1 := by rw [rNext, if_pos (show isC (m : Int) by unfold isC; omega), rnextOf, Int.toNat_natCast]
  have HN := rNext_calls ok x xl X m w hX hF
  rw [eN] at HN
  have HNX := Aside0.mk HN
  have HX := Aside0.mk hX
  have HO := Aside0.mk hok
  have HNE := Aside0.mk hne
  unfold rnextOf at c2
  clear hX hF HN eN hfz hok hne
  have b3 : (0 : Int) ≤ (m : Int) := by omega
  have b4 : (m : Int) < 6 := by omega
  generalize hg : (X m).got = g at *
  clear hg
  by_cases hgu : g < upto
  · rw [if_pos hgu] at hmx
    subst hmx
    go_enter Try.func29, Try.ntmps29
    go_wp2_with (first | (go_at_call 10; refine (is_yes m hm _).mono ?_; rintro e w' ⟨rfl, rfl⟩) | (go_at_call 18; refine HNX.out.mono ?_; rintro e w' ⟨rfl, k, rfl⟩))
    refine wp_plan [(0, 0, 19), (1, 0, 20), (2, 0, 21), (3, 0, 22), (4, 0, 23), (5, 0, 24), (6, 0, 25), (7, 0, 26), (8, 0, 27), (9, 0, 28), (10, 0, 29), (11, 0, 30), (12, 0, 31), (13, 0, 32), (14, 0, 33), (15, 0, 34), (16, 0, 35), (17, 3, 0)] [17] (fun W => W.cell? ⟨x, 0, none⟩ = some (.slice (some ⟨xl, 0, none⟩) 6 6) ∧ W.cell? ⟨xl, m * 3 + 2, none⟩ = some (.int .i64 g)) (by kernel_rfl) rfl (by kernel_rfl) (fun _ t _ _ _ h => by cases t <;> exact h) ⟨hc0, hc3⟩ (fun hS => ?_)
    repeat (refine RP.take (v := ?_) (a' := ?_) rfl rfl (by assumption) (Or.inl ⟨by rfl, ?_⟩) ?_ ?_; rotate_left; (focus (rintro w' ⟨hS0, hS1⟩; go_simp; with_reducible rfl)); rotate_left; (focus (simp only [Act.put, List.setIfInBounds_toArray, List.set_cons_zero, List.set_cons_succ, i64_w, i32_w]; rfl)))
    refine RP.last rfl rfl (fun K hK => ?_)
    go_simp
    refine hK.out _ _ (RP.nil ?_)
    clear hK K
    go_wp2
    go_ret
    have hk := ((Chg.refl (fun _ => False) w).drewN (k + 1))
    refine ⟨rfl, (HX.out.chg hk (fun h => h) (fun h => h) (fun _ _ h => h)).setGot HO.out HNE.out hm, Chg.set (S := fun k => k = xl) (p := ⟨xl, m * 3 + 2, none⟩) (hk.mono (fun _ h => h.elim)) (.inl rfl) _⟩
  · rw [if_neg hgu] at hmx
    subst hmx
    go_enter Try.func29, Try.ntmps29
    go_wp2_with (first | (go_at_call 10; refine (is_yes m hm _).mono ?_; rintro e w' ⟨rfl, rfl⟩) | (go_at_call 18; refine HNX.out.mono ?_; rintro e w' ⟨rfl, k, rfl⟩))
    refine wp_plan [(0, 0, 19), (1, 0, 20), (2, 0, 21), (3, 0, 22), (4, 0, 23), (5, 0, 24), (6, 0, 25), (7, 0, 26), (8, 0, 27), (9, 0, 28), (10, 0, 29), (11, 0, 30), (12, 0, 31), (13, 0, 32), (14, 0, 33), (15, 0, 34), (16, 0, 35), (17, 3, 0)] [17] (fun W => W.cell? ⟨x, 0, none⟩ = some (.slice (some ⟨xl, 0, none⟩) 6 6) ∧ W.cell? ⟨xl, m * 3 + 2, none⟩ = some (.int .i64 mx)) (by kernel_rfl) rfl (by kernel_rfl) (fun _ t _ _ _ h => by cases t <;> exact h) ⟨hc0, hc3⟩ (fun hS => ?_)
    repeat (refine RP.take (v := ?_) (a' := ?_) rfl rfl (by assumption) (Or.inl ⟨by rfl, ?_⟩) ?_ ?_; rotate_left; (focus (rintro w' ⟨hS0, hS1⟩; go_simp; with_reducible rfl)); rotate_left; (focus (simp only [Act.put, List.setIfInBounds_toArray, List.set_cons_zero, List.set_cons_succ, i64_w, i32_w]; rfl)))
    refine RP.last rfl rfl (fun K hK => ?_)
    go_simp
    refine hK.out _ _ (RP.nil ?_)
    clear hK K
    go_wp2
    go_ret
    have hk := ((Chg.refl (fun _ => False) w).drewN (k + 1))
    refine ⟨rfl, (HX.out.chg hk (fun h => h) (fun h => h) (fun _ _ h => h)).setGot HO.out HNE.out hm, Chg.set (S := fun k => k = xl) (p := ⟨xl, m * 3 + 2, none⟩) (hk.mono (fun _ h => h.elim)) (.inl rfl) _⟩
theorem rGets_calls (ok : Nat → Prop) (x xl : Nat) (X : Rb) (n upto : Int) (w : World) (hX : RefAt ok w x xl X) (hF : ∀ m, m < 6 → RFine (X m)) (hok : ∀ k, ok k → k ≠ xl) (hne : x ≠ xl) :
    Calls Try.prog 29 #[.pointer (some ⟨x, 0, none⟩), .int .i64 n, .int .i64 upto] w fun e w' => e = .returned (.int .i64 (rGets X n upto).1) ∧ RefAt ok w' x xl (rGets X n upto).2 ∧ Chg (fun k => k = xl) w w' := by
  have quiet : ∀ {r : Int} {n : Int}, (Calls Try.prog 29 #[.pointer (some ⟨x, 0, none⟩), .int .i64 n, .int .i64 upto] w fun e w' => e = .returned (.int .i64 r) ∧ ∃ k, w' = w.drewN k) →
      Calls Try.prog 29 #[.pointer (some ⟨x, 0, none⟩), .int .i64 n, .int .i64 upto] w fun e w' => e = .returned (.int .i64 r) ∧ RefAt ok w' x xl X ∧ Chg (fun k => k = xl) w w' := by
    intro r n h
    refine h.mono fun e w' he => ?_
    obtain ⟨he, k, rfl⟩ := he
    have hc := (Chg.refl (fun k : Nat => False) w).drewN k
    exact ⟨he, hX.chg hc (fun h => h) (fun h => h) (fun _ _ h => h), hc.mono (fun _ h => h.elim)⟩
  by_cases hn : isC n
  · obtain ⟨m, hm, rfl⟩ := isC_nat hn
    unfold rGets
    rw [if_pos hn, Int.toNat_natCast]
    have eN : rNext X m = (X m).ahead + ((X m).codes.length : Int) + 1 := by rw [rNext, if_pos hn, rnextOf, Int.toNat_natCast]
    have HN := rNext_calls ok x xl X m w hX hF
    rw [eN] at HN
    have HNX := Aside0.mk HN
    have hz : 0 ≤ (X m).ahead := (hF m hm).1
    clear HN eN
    by_cases h1 : upto < 0
    · rw [if_pos (.inl h1)]
      refine quiet ?_
      clear quiet hX hF hok hn HNX hz
      go_enter Try.func29, Try.ntmps29
      go_wp2_with (first | (go_at_call 10; refine (is_yes m hm _).mono ?_; rintro e w' ⟨rfl, rfl⟩))
      go_ret
      exact ⟨rfl, 0, rfl⟩
    · by_cases h2 : rnextOf (X m) ≤ upto
      · rw [if_pos (.inr h2)]
        refine quiet ?_
        unfold rnextOf at h2
        clear quiet hX hF hok hn
        generalize (X m).ahead = a at *
        generalize (X m).codes = l at *
        go_enter Try.func29, Try.ntmps29
        go_wp2_with (first | (go_at_call 10; refine (is_yes m hm _).mono ?_; rintro e w' ⟨rfl, rfl⟩) | (go_at_call 18; refine HNX.out.mono ?_; rintro e w' ⟨rfl, k, rfl⟩))
        go_ret
        exact ⟨rfl, _, rfl⟩
      · rw [if_neg (fun h => h.elim h1 h2)]
        exact rgets_last ok x xl X m hm upto w hX hF hok hne h1 h2 _ rfl
  · have e : rGets X n upto = (14, X) := if_neg hn
    rw [e]
    refine quiet ?_
    have HN := Aside0.mk hn
    clear e quiet hX hF hok hn
    go_enter Try.func29, Try.ntmps29
    go_wp2_with (go_at_call 10; refine (is_no n HN.out _).mono ?_; rintro e w' ⟨rfl, rfl⟩)
    go_ret
    exact ⟨rfl, 0, rfl⟩

end Go.Proofs.Ytfmlamnkpoloaaa.Q

/- The reference's Put. -/
namespace Go.Proofs.Ytfmlamnkpoloaaa.Q
open Go.RowKit Go.Proofs.YtfmlamnkpoloaaaW.PrintWords Go.Proofs.YtfmlamnkpoloaaaW.PrintLast Go.Proofs.YtfmlamnkpoloaaaW.PrintMore
set_option linter.unusedVariables false
set_option linter.unusedSimpArgs false

def rPut (X : Rb) (n seq code : Int) : Int × Rb :=
  if isC n then
    if code < 0 ∨ 63 < code then (2, X) else if 0 < seq ∧ seq < rnextOf (X n.toNat) then (9, X) else if seq ≠ rnextOf (X n.toNat) then (3, X)
    else if 32 ≤ seq - 1 - (X n.toNat).got then (10, X) else (0, X.upd n.toNat ⟨(X n.toNat).codes ++ [code], (X n.toNat).ahead, (X n.toNat).got⟩)
  else (14, X)
theorem RefAt.setRow {w : World} {ok : Nat → Prop} {x xl m : Nat} {X : Rb} {v : Value} {c : Rc} (h : RefAt ok w x xl X) (hok : ∀ k, ok k → k ≠ xl) (hne : x ≠ xl) (hm : m < 6) (hv : RowI w ok v c.codes) :
    RefAt ok (((w.setCell ⟨xl, m * 3, none⟩ v).setCell ⟨xl, m * 3 + 1, none⟩ (.int .i64 c.ahead)).setCell ⟨xl, m * 3 + 2, none⟩ (.int .i64 c.got)) x xl (X.upd m c) := by
  obtain ⟨cs, hb, hz, ha⟩ := h.all
  refine ⟨blk_far (blk_far (blk_far h.top hne _) hne _) hne _, _, blk_set (blk_set (blk_set hb _ _) _ _) _ _, by simpa using hz, fun n hn => ?_⟩
  obtain ⟨⟨u, h2, h3⟩, h4, h5⟩ := ha n hn
  unfold Rb.upd
  by_cases e : n = m
  · subst e
    rw [if_pos rfl]
    refine ⟨⟨v, ?_, ((hv.far hok _).far hok _).far hok _⟩, ?_, ?_⟩
    · rw [Array.getElem?_setIfInBounds_ne (by omega), Array.getElem?_setIfInBounds_ne (by omega), Array.getElem?_setIfInBounds_self_of_lt (by omega)]
    · rw [Array.getElem?_setIfInBounds_ne (by omega), Array.getElem?_setIfInBounds_self_of_lt (by simp; omega)]
    · rw [Array.getElem?_setIfInBounds_self_of_lt (by simp; omega)]
  · rw [if_neg e]
    refine ⟨⟨u, ?_, ((h3.far hok _).far hok _).far hok _⟩, ?_, ?_⟩
    · rw [Array.getElem?_setIfInBounds_ne (by omega), Array.getElem?_setIfInBounds_ne (by omega), Array.getElem?_setIfInBounds_ne (by omega)]; exact h2
    · rw [Array.getElem?_setIfInBounds_ne (by omega), Array.getElem?_setIfInBounds_ne (by omega), Array.getElem?_setIfInBounds_ne (by omega)]; exact h4
    · rw [Array.getElem?_setIfInBounds_ne (by omega), Array.getElem?_setIfInBounds_ne (by omega), Array.getElem?_setIfInBounds_ne (by omega)]; exact h5
theorem Chg.toBelow {w w' : World} (h : Chg (fun _ => False) w w') : Below w.heap.size w w' := h.below (Below.refl _ _) (Nat.le_refl _) (fun _ h => h.elim)
theorem chg_blk {w w' : World} (h : Chg (fun _ => False) w w') {g : Nat} {o : Obj} (hb : w.heap[g]? = some o) : w'.heap[g]? = some o := (h.keep g (blk_lt hb) (fun h => h)).trans hb

set_option maxHeartbeats 4000000 in
set_option maxRecDepth 100000 in
theorem rput_last (ok : Nat → Prop) (x xl : Nat) (X : Rb) (m : Nat) (hm : m < 6) (code : Int) (w : World) (hX : RefAt ok w x xl X) (hF : ∀ m, m < 6 → RFine (X m)) (hok : ∀ k, ok k → k ≠ xl) (hnew : ∀ k, w.heap.size ≤ k → ok k) (hne : x ≠ xl) (c1 : 0 ≤ code) (c2 : code ≤ 63) (seq : Int) (hseq : seq = (X m).ahead + ((X m).codes.length : Int) + 1) (c5 : ¬ 32 ≤ seq - 1 - (X m).got) :
    Calls Try.prog 28 #[.pointer (some ⟨x, 0, none⟩), .int .i64 (m : Int), .int .i64 seq, .int .i64 code] w fun e w' => e = .returned (.int .i64 0) ∧ RefAt ok w' x xl (X.upd m ⟨(X m).codes ++ [code], (X m).ahead, (X m).got⟩) ∧ Chg (fun k => k = xl) w w' := by
  obtain ⟨hc0, ⟨A, c, hc1, hlc, hR⟩, hc2, hc3, hfz⟩ := hX.cells hm
  have eN : rNext X m = seq := by rw [rNext, if_pos (show isC (m : Int) by unfold isC; omega), rnextOf, Int.toNat_natCast, hseq]
  have HN := fun w' (h : RefAt ok w' x xl X) => rNext_calls ok x xl X m w' h hF
  rw [eN] at HN
  have HNX := Aside0.mk HN
  have HX := Aside0.mk hX
  have HO := Aside0.mk hok
  have HW := Aside0.mk hnew
  have HNE := Aside0.mk hne
  have HR := Aside0.mk hR
  have hlt := hX.lt
  have hl1 := hlt.1
  have hl2 := hlt.2
  have HFR := Aside0.mk hfz
  have hf := hF m hm
  have q1 : 0 ≤ (X m).ahead := hf.1
  have q2 : (X m).ahead ≤ (X m).got := hf.2.1
  have q3 : (X m).got ≤ (X m).ahead + ((X m).codes.length : Int) := hf.2.2.1
  have q4 := hf.2.2.2.1
  have HQ := Aside0.mk hf.2.2.2.2
  clear hX hF HN eN hfz hok hne hnew hR hlt hf
  have b3 : (0 : Int) ≤ (m : Int) := by omega
  have b4 : (m : Int) < 6 := by omega
  generalize hg : (X m).got = g at *
  generalize ha : (X m).ahead = h at *
  generalize hl : (X m).codes = l at *
  have r1 : 1 ≤ seq := by omega
  have r2 : seq ≤ 1152921504606846977 := by omega
  have r3 : 0 ≤ g := by omega
  have r4 : g ≤ 1152921504606846976 := by omega
  clear hseq q1 q2 q3 q4 hg ha hl
  have e1 : ¬ seq < seq := by omega
  go_enter Try.func28, Try.ntmps28
  go_wp2_with (first | (go_at_call 10; refine (is_yes m hm _).mono ?_; rintro e w' ⟨rfl, rfl⟩) | (go_at_call 18; refine (HNX.out _ (by first | exact HX.out | exact HX.out.chg ((Chg.refl (fun _ => False) w).drewN _) (fun h => h) (fun h => h) (fun _ _ h => h))).mono ?_; rintro e w' ⟨rfl, k, rfl⟩) | ((with_reducible refine gate_dst (N := 9) rfl ?_); refine box_event ?hg (N := 9) ?hd (cs := #[.slice none 0 0, .int .i64 0, .int .i64 0]) (t := 67) ?hr ?_; (case hd => rfl); (case hg => rfl); (case hr => first | (go_simp; done) | (go_simp; rfl)); intro gB hgB w1 hbox hb1; have hk1 := Aside0.mk (((Chg.refl (fun _ => False) w).drewN _).trans (Chg.of_below hb1 _)); have BK1 := Aside0.mk hbox; have HGB := Aside0.mk hgB; obtain ⟨d0, d1, d2, f0, f1, f2⟩ := box3 hbox; clear hb1 hbox hgB) | ((with_reducible refine gate_store (t := 67) (p := 9) rfl ?_); refine store_event (t := 67) (p := 9) (v := ?vo) (w1 := (((w1.setCell ⟨gB, 0, none⟩ (.slice A l.length c)).setCell ⟨gB, 1, none⟩ (.int .i64 h)).setCell ⟨gB, 2, none⟩ (.int .i64 g))) ?hg ?ho ?hn ?hr ?_; (case ho => rfl); (case hg => rfl); (case hn => rfl); (case hr => first | (go_simp; done) | (go_simp; rfl)); intro w2 hw2; have hge : Aside0 (w.heap.size ≤ gB) := ⟨Nat.le_of_eq HGB.out.symm⟩; have hk2 : Aside0 (Chg (fun _ => False) w w2) := ⟨by rw [hw2]; exact ((hk1.out.set (.inr hge.out) _).set (.inr hge.out) _).set (.inr hge.out) _⟩; have BK2 : Aside0 (w2.heap[gB]? = some (.cells #[.slice A l.length c, .int .i64 h, .int .i64 g] 67 (0, 0))) := ⟨by rw [hw2]; exact blk_put (blk_put (blk_put BK1.out 0 _ rfl) 1 _ rfl) 2 _ rfl⟩; clear d0 d1 d2 f0 f1 f2 BK1 hk1 hw2; obtain ⟨d0, d1, d2, f0, f1, f2⟩ := box3 BK2.out) | ((with_reducible refine gate_dst (N := 46) rfl ?_); refine Kd.R_lit (w0 := w) (Kd.int .i64) w.heap.size 3 ?hg (N := 46) ?hd (xs := ([] : List Int)) (inner := []) (ok := ok) (okp := ok) ?hr (Reps.none _ _) (fun _ h => h) (HW.out _ hk2.out.low.size) hk2.out.toBelow hk2.out.low.size (by simp) ?_; (case hg => rfl); (case hd => rfl); (case hr => first | (go_simp; done) | (go_simp; rfl)); intro v3 w3 ho3 hb3 hg3 hat3; have hk3 := Aside0.mk (Chg.grown hk2.out hg3); have BK3 := Aside0.mk (blk_grown BK2.out hg3 (by simp)); have HO3 := Aside0.mk ho3; have HB3 := Aside0.mk hb3; have HR3 := Aside0.mk (HR.out.chg hk3.out (fun _ _ h => h)); clear d0 d1 d2 f0 f1 f2 ho3 hb3 hg3 hat3 BK2 hk2; obtain ⟨d0, d1, d2, f0, f1, f2⟩ := box3 BK3.out) | ((with_reducible refine gate_builtin (b := .append) (xs := #[.tmp 46, .tmp 48]) rfl ?_); at_builtin; refine Kd.R_append_rows (Kd.int .i64) (Rr := (Kd.int .i64).K w3) w.heap.size rfl (.tmp 46) (.tmp 48) 26 3 (.int .i64 0) 8 rfl Try.underlying26 infoI rfl (by decide) (by decide) v3 [] l A l.length c ok (fun _ => False) rfl rfl HO3.out (Kd.F_now (Kd.V_at HR3.out).2.2) (fun _ _ h => h) (fun _ h => h.elim) (fun k hk => HW.out k (Nat.le_trans hk3.out.low.size hk)) HB3.out hk3.out.low.size (by have := HQ.out; simp; omega) ?_; intro v4 w4 ho4 hb4 hg4 hat4; have hk4 := Aside0.mk (hk3.out.grownN hg4 (fun k e => Kd.R_base HO3.out k e)); have BK4 := Aside0.mk (blk_grown BK3.out hg4 (Kd.R_ne HO3.out BK3.out (by decide))); have HO4 := Aside0.mk (show Kd.R (Kd.int .i64) 3 w4 w.heap.size ok v4 l from ho4); have HB4 := Aside0.mk hb4; clear d0 d1 d2 f0 f1 f2 ho4 hb4 hg4 hat4 BK3 hk3 HO3 HB3 HR3; obtain ⟨d0, d1, d2, f0, f1, f2⟩ := box3 BK4.out) | ((with_reducible refine gate_builtin (b := .append) (xs := #[.tmp 49, .tmp 51]) rfl ?_); at_builtin; refine Kd.R_append (Kd.int .i64) w.heap.size rfl (.tmp 49) (.tmp 51) 26 3 (.int .i64 0) 8 rfl Try.underlying26 infoI rfl (by decide) (by decide) v4 l code [.int .i64 code] ok (fun _ => False) rfl rfl rfl (fun _ h => h.elim) (fun k hk => HW.out k (Nat.le_trans hk4.out.low.size hk)) HO4.out HB4.out hk4.out.low.size (by have := HQ.out; omega) ?_; intro v5 w5 ho5 hb5 hg5 hat5; have hk5 := Aside0.mk (hk4.out.grownN hg5 (fun k e => Kd.R_base HO4.out k e)); have BK5 := Aside0.mk (blk_grown BK4.out hg5 (Kd.R_ne HO4.out BK4.out (by decide))); have hv5 : RowI w5 (fun k => ok k ∧ k ≠ gB) v5 (l ++ [code]) := Kd.R_V (Kd.R_types ho5 BK5.out (by decide)); obtain ⟨A5, cc5, rfl⟩ := Kd.V_slice hv5; have HV5 := Aside0.mk hv5; have el : (l ++ [code]).length = l.length + 1 := (by simp); rw [el] at HV5; clear d0 d1 d2 f0 f1 f2 ho5 hb5 hg5 hat5 BK4 hk4 HO4 HB4 hv5; obtain ⟨d0, d1, d2, f0, f1, f2⟩ := box3 BK5.out; rw [el]; clear el) | ((with_reducible refine gate_store (t := 26) (p := 53) rfl ?_); refine store_event (t := 26) (p := 53) (v := ?vo2) (w1 := w5.setCell ⟨gB, 0, none⟩ (.slice A5 (l.length + 1) cc5)) ?hg2 ?ho2 ?hn2 ?hr2 ?_; (case ho2 => rfl); (case hg2 => rfl); (case hn2 => rfl); (case hr2 => first | (go_simp; done) | (go_simp; rfl)); intro w6 hw6; have hk6 : Aside0 (Chg (fun _ => False) w w6) := ⟨by rw [hw6]; exact hk5.out.set (.inr hge.out) _⟩; have BK6 : Aside0 (w6.heap[gB]? = some (.cells #[.slice A5 (l.length + 1) cc5, .int .i64 h, .int .i64 g] 67 (0, 0))) := ⟨by rw [hw6]; exact blk_put BK5.out 0 _ rfl⟩; have HV6 : Aside0 (RowI w6 ok (.slice A5 (l.length + 1) cc5) (l ++ [code])) := ⟨by rw [hw6]; exact Kd.V_mono (HV5.out.far (p := ⟨gB, 0, none⟩) (fun k hk => hk.2) _) (fun k hk => hk.1)⟩; clear d0 d1 d2 f0 f1 f2 BK5 hk5 hw6 HV5; obtain ⟨d0, d1, d2, f0, f1, f2⟩ := box3 BK6.out))
  have hx6 := (hk6.out.cell (p := ⟨x, 0, none⟩) hl1).trans hc0
  have y0 := (hk6.out.cell (p := ⟨xl, m * 3, none⟩) hl2).trans hc1
  have y1 := (hk6.out.cell (p := ⟨xl, m * 3 + 1, none⟩) hl2).trans hc2
  have y2 := (hk6.out.cell (p := ⟨xl, m * 3 + 2, none⟩) hl2).trans hc3
  have z0 := (hk6.out.frozen (p := ⟨xl, m * 3, none⟩) hl2).trans (HFR.out _)
  have z1 := (hk6.out.frozen (p := ⟨xl, m * 3 + 1, none⟩) hl2).trans (HFR.out _)
  have z2 := (hk6.out.frozen (p := ⟨xl, m * 3 + 2, none⟩) hl2).trans (HFR.out _)
  clear hc0 hc1 hc2 hc3
  refine wp_plan [(0, 0, 54), (1, 0, 55), (2, 0, 56), (3, 0, 57), (4, 0, 58), (5, 0, 59), (6, 0, 60), (7, 3, 0)] [7] (fun W => W.cell? ⟨x, 0, none⟩ = some (.slice (some ⟨xl, 0, none⟩) 6 6) ∧ W.cell? ⟨gB, 0, none⟩ = some (.slice A5 (l.length + 1) cc5) ∧ W.cell? ⟨gB, 1, none⟩ = some (.int .i64 h) ∧ W.cell? ⟨gB, 2, none⟩ = some (.int .i64 g)) (by kernel_rfl) rfl (by kernel_rfl) (fun _ t _ _ _ h => by cases t <;> exact h) ⟨hx6, d0, d1, d2⟩ (fun hS => ?_)
  repeat (refine RP.take (v := ?_) (a' := ?_) rfl rfl (by assumption) (Or.inl ⟨by rfl, ?_⟩) ?_ ?_; rotate_left; (focus (rintro w' ⟨hS0, hS1, hS2, hS3⟩; go_simp; with_reducible rfl)); rotate_left; (focus (simp only [Act.put, List.setIfInBounds_toArray, List.set_cons_zero, List.set_cons_succ, i64_w, i32_w]; rfl)))
  refine RP.last rfl rfl (fun K hK => ?_)
  go_simp
  refine hK.out _ _ (RP.nil ?_)
  clear hK K
  go_wp2
  go_ret
  have hk7 := hk6.out.drewN 1
  refine ⟨rfl, (HX.out.chg hk7 (fun h => h) (fun h => h) (fun _ _ h => h)).setRow (c := ⟨l ++ [code], h, g⟩) HO.out HNE.out hm (HV6.out.drewN 1), ?_⟩
  exact Chg.set (S := fun k => k = xl) (p := ⟨xl, m * 3 + 2, none⟩) (Chg.set (S := fun k => k = xl) (p := ⟨xl, m * 3 + 1, none⟩) (Chg.set (S := fun k => k = xl) (p := ⟨xl, m * 3, none⟩) (hk7.mono (fun _ h => h.elim)) (.inl rfl) _) (.inl rfl) _) (.inl rfl) _

set_option maxHeartbeats 2000000 in
theorem rput_not (ok : Nat → Prop) (x xl : Nat) (X : Rb) (m : Nat) (hm : m < 6) (seq code r : Int) (w : World) (hX : RefAt ok w x xl X) (hF : ∀ m, m < 6 → RFine (X m)) (hsb : -9223372036854775808 ≤ seq ∧ seq ≤ 9223372036854775807)
    (h : code < 0 ∧ r = 2 ∨ 63 < code ∧ r = 2 ∨ (0 ≤ code ∧ code ≤ 63 ∧ 0 < seq ∧ seq < rnextOf (X m) ∧ r = 9) ∨ (0 ≤ code ∧ code ≤ 63 ∧ ¬ (0 < seq ∧ seq < rnextOf (X m)) ∧ seq ≠ rnextOf (X m) ∧ r = 3) ∨ (0 ≤ code ∧ code ≤ 63 ∧ seq = rnextOf (X m) ∧ 32 ≤ seq - 1 - (X m).got ∧ r = 10)) :
    Calls Try.prog 28 #[.pointer (some ⟨x, 0, none⟩), .int .i64 (m : Int), .int .i64 seq, .int .i64 code] w fun e w' => e = .returned (.int .i64 r) ∧ Below w.heap.size w w' := by
  obtain ⟨hc0, ⟨A, c, hc1, hlc, hR⟩, hc2, hc3, hfz⟩ := hX.cells hm
  have eN : rNext X m = rnextOf (X m) := by rw [rNext, if_pos (show isC (m : Int) by unfold isC; omega), Int.toNat_natCast]
  have HN := fun w' (h : RefAt ok w' x xl X) => rNext_calls ok x xl X m w' h hF
  rw [eN] at HN
  have HNX := Aside0.mk HN
  have HX := Aside0.mk hX
  have hf := hF m hm
  have q1 : 0 ≤ (X m).ahead := hf.1
  have q2 : (X m).ahead ≤ (X m).got := hf.2.1
  have q3 : (X m).got ≤ (X m).ahead + ((X m).codes.length : Int) := hf.2.2.1
  have q4 := hf.2.2.2.1
  obtain ⟨N, hN⟩ : ∃ N, rnextOf (X m) = N := ⟨_, rfl⟩
  have q5 : N = (X m).ahead + ((X m).codes.length : Int) + 1 := by rw [← hN, rnextOf]
  rw [hN] at h HNX
  have r2 : N ≤ 1152921504606846977 := by omega
  have r1 : 1 ≤ N := by omega
  clear hX hF HN eN hfz hR hf hN
  have b3 : (0 : Int) ≤ (m : Int) := by omega
  have b4 : (m : Int) < 6 := by omega
  generalize (X m).got = g at *
  generalize (X m).ahead = hh at *
  generalize (X m).codes = l at *
  have r3 : 0 ≤ g := by omega
  have r4 : g ≤ 1152921504606846976 := by omega
  clear q1 q2 q3 q4 q5
  obtain ⟨s1, s2⟩ := hsb
  rcases h with ⟨h1, rfl⟩ | ⟨h1, rfl⟩ | ⟨h1, h2, h3, h4, rfl⟩ | ⟨h1, h2, h3, h4, rfl⟩ | ⟨h1, h2, rfl, h4, rfl⟩
  case' inr.inr.inr.inl => by_cases h5 : 0 < seq
  all_goals
    go_enter Try.func28, Try.ntmps28
    go_wp2_with (first | (go_at_call 10; refine (is_yes m hm _).mono ?_; rintro e w' ⟨rfl, rfl⟩) | (go_at_call 18; refine (HNX.out _ (by first | exact HX.out | exact HX.out.chg ((Chg.refl (fun _ => False) w).drewN _) (fun h => h) (fun h => h) (fun _ _ h => h))).mono ?_; rintro e w' ⟨rfl, k, rfl⟩) | ((with_reducible refine gate_dst (N := 9) rfl ?_); refine box_event ?hg (N := 9) ?hd (cs := #[.slice none 0 0, .int .i64 0, .int .i64 0]) (t := 67) ?hr ?_; (case hd => rfl); (case hg => rfl); (case hr => first | (go_simp; done) | (go_simp; rfl)); intro gB hgB w1 hbox hb1; have hge : Aside0 (w.heap.size ≤ gB) := ⟨Nat.le_of_eq hgB.symm⟩; have hk1 := Aside0.mk (((Chg.refl (fun _ => False) w).drewN _).trans (Chg.of_below hb1 _)); obtain ⟨d0, d1, d2, f0, f1, f2⟩ := box3 hbox; clear hb1 hbox hgB))
  all_goals go_ret
  all_goals exact ⟨rfl, by first | exact Below.refl _ _ | exact pw_below_drewN (Below.refl _ _) _ | exact (((hk1.out.set (.inr hge.out) _).set (.inr hge.out) _).set (.inr hge.out) _).toBelow⟩

theorem rPut_calls (ok : Nat → Prop) (x xl : Nat) (X : Rb) (n seq code : Int) (w : World) (hX : RefAt ok w x xl X) (hF : ∀ m, m < 6 → RFine (X m)) (hok : ∀ k, ok k → k ≠ xl) (hnew : ∀ k, w.heap.size ≤ k → ok k) (hne : x ≠ xl) (hsb : -9223372036854775808 ≤ seq ∧ seq ≤ 9223372036854775807) :
    Calls Try.prog 28 #[.pointer (some ⟨x, 0, none⟩), .int .i64 n, .int .i64 seq, .int .i64 code] w fun e w' => e = .returned (.int .i64 (rPut X n seq code).1) ∧ RefAt ok w' x xl (rPut X n seq code).2 ∧ Chg (fun k => k = xl) w w' := by
  have quiet : ∀ {r : Int} {n : Int}, (Calls Try.prog 28 #[.pointer (some ⟨x, 0, none⟩), .int .i64 n, .int .i64 seq, .int .i64 code] w fun e w' => e = .returned (.int .i64 r) ∧ Below w.heap.size w w') →
      Calls Try.prog 28 #[.pointer (some ⟨x, 0, none⟩), .int .i64 n, .int .i64 seq, .int .i64 code] w fun e w' => e = .returned (.int .i64 r) ∧ RefAt ok w' x xl X ∧ Chg (fun k => k = xl) w w' := by
    intro r n h
    refine h.mono fun e w' he => ?_
    obtain ⟨he, hb⟩ := he
    have hc := Chg.of_below hb (fun k : Nat => False)
    exact ⟨he, hX.chg hc (fun h => h) (fun h => h) (fun _ _ h => h), hc.mono (fun _ h => h.elim)⟩
  by_cases hn : isC n
  · obtain ⟨m, hm, rfl⟩ := isC_nat hn
    unfold rPut
    rw [if_pos hn, Int.toNat_natCast]
    by_cases h1 : code < 0 ∨ 63 < code
    · rw [if_pos h1]
      exact quiet (rput_not ok x xl X m hm seq code 2 w hX hF hsb (by omega))
    · rw [if_neg h1]
      by_cases h2 : 0 < seq ∧ seq < rnextOf (X m)
      · rw [if_pos h2]
        exact quiet (rput_not ok x xl X m hm seq code 9 w hX hF hsb (by omega))
      · rw [if_neg h2]
        by_cases h3 : seq ≠ rnextOf (X m)
        · rw [if_pos h3]
          exact quiet (rput_not ok x xl X m hm seq code 3 w hX hF hsb (by omega))
        · rw [if_neg h3]
          have h3 : seq = rnextOf (X m) := by omega
          by_cases h4 : 32 ≤ seq - 1 - (X m).got
          · rw [if_pos h4]
            exact quiet (rput_not ok x xl X m hm seq code 10 w hX hF hsb (by omega))
          · rw [if_neg h4]
            exact rput_last ok x xl X m hm code w hX hF hok hnew hne (by omega) (by omega) seq h3 h4
  · have e : rPut X n seq code = (14, X) := if_neg hn
    rw [e]
    refine quiet ?_
    have HN := Aside0.mk hn
    clear e quiet hX hF hok hnew hn
    go_enter Try.func28, Try.ntmps28
    go_wp2_with (go_at_call 10; refine (is_no n HN.out _).mono ?_; rintro e w' ⟨rfl, rfl⟩)
    go_ret
    exact ⟨rfl, Below.refl _ _⟩

end Go.Proofs.Ytfmlamnkpoloaaa.Q

/- The contract of do: a call of both tables. -/
namespace Go.Proofs.Ytfmlamnkpoloaaa.Q
open Go.RowKit Go.Proofs.YtfmlamnkpoloaaaW.PrintWords Go.Proofs.YtfmlamnkpoloaaaW.PrintLast Go.Proofs.YtfmlamnkpoloaaaW.PrintMore
set_option linter.unusedVariables false
set_option linter.unusedSimpArgs false

/-- Both tables, apart; B bounds all numbers. -/
structure Both (ok : Nat → Prop) (N B : Nat) (w : World) (t x xl : Nat) (T : Tb) (X : Rb) : Prop where
  tab : TabAt ok w t T
  ref : RefAt ok w x xl X
  fine : ∀ m, m < 6 → 0 ≤ (T m).got ∧ (T m).got + (T m).codes.length ≤ B
  rfine : ∀ m, m < 6 → 0 ≤ (X m).ahead ∧ (X m).ahead ≤ (X m).got ∧ (X m).got ≤ (X m).ahead + (X m).codes.length ∧ (X m).ahead + (X m).codes.length ≤ B
  room : B ≤ 100000
  okt : ∀ k, ok k → k ≠ t
  okx : ∀ k, ok k → k ≠ x
  okl : ∀ k, ok k → k ≠ xl
  tx : t ≠ x
  tl : t ≠ xl
  xx : x ≠ xl
  new : ∀ k, N ≤ k → ok k
  size : N ≤ w.heap.size
section
variable {ok : Nat → Prop} {N B : Nat} {w w' : World} {t x xl : Nat} {T : Tb} {X : Rb}
theorem Both.fines (h : Both ok N B w t x xl T X) : ∀ m, m < 6 → Fine (T m) := fun m hm => by
  have h1 := h.fine m hm
  have h2 := h.room
  exact ⟨h1.1, by omega, by omega⟩
theorem Both.rfines (h : Both ok N B w t x xl T X) : ∀ m, m < 6 → RFine (X m) := fun m hm => by
  obtain ⟨h1, h3, h4, h5⟩ := h.rfine m hm
  have h2 := h.room
  exact ⟨h1, h3, h4, by omega, by omega⟩
theorem Both.chg {S : Nat → Prop} (h : Both ok N B w t x xl T X) (hc : Chg S w w') (hs : ∀ k, S k → False) : Both ok N B w' t x xl T X :=
  ⟨h.tab.chg hc (hs _) (fun k _ => hs k), h.ref.chg hc (hs _) (hs _) (fun k _ => hs k), h.fine, h.rfine, h.room, h.okt, h.okx, h.okl, h.tx, h.tl, h.xx, h.new, Nat.le_trans h.size hc.low.size⟩
theorem Both.more {B' : Nat} (h : Both ok N B w t x xl T X) (hb : B ≤ B') (hb' : B' ≤ 100000) : Both ok N B' w t x xl T X :=
  ⟨h.tab, h.ref, fun m hm => by have := h.fine m hm; omega, fun m hm => by have := h.rfine m hm; omega, hb', h.okt, h.okx, h.okl, h.tx, h.tl, h.xx, h.new, h.size⟩
theorem Both.away (h : Both ok N B w t x xl T X) {g : Nat} (hg : w.heap.size ≤ g) : ¬ (g = t ∨ g = xl) := by
  have h1 := h.tab.lt
  have h2 := h.ref.lt.2
  omega
theorem Both.next_in (h : Both ok N B w t x xl T X) (n : Int) : -9223372036854775808 ≤ rNext X n ∧ rNext X n ≤ 9223372036854775807 := by
  unfold rNext rnextOf
  split
  · rename_i hn
    have h1 := h.rfine n.toNat (by unfold isC at hn; omega)
    have h2 := h.room
    omega
  · omega
theorem dPut_fine (n seq code : Int) (h : ∀ m, m < 6 → 0 ≤ (T m).got ∧ (T m).got + (T m).codes.length ≤ B) : ∀ m, m < 6 → 0 ≤ ((dPut T n seq code).2 m).got ∧ ((dPut T n seq code).2 m).got + ((dPut T n seq code).2 m).codes.length ≤ ((B + 1 : Nat) : Int) := by
  intro m hm
  have hT := h m hm
  have hT' : 0 ≤ (T m).got ∧ (T m).got + (T m).codes.length ≤ ((B + 1 : Nat) : Int) := by omega
  unfold dPut
  split
  · split
    · exact hT'
    · split
      · exact hT'
      · split
        · exact hT'
        · split
          · exact hT'
          · dsimp only
            unfold Tb.upd
            by_cases e : m = n.toNat
            · rw [if_pos e, ← e]
              simp only [List.length_append, List.length_cons, List.length_nil]
              omega
            · rw [if_neg e]
              exact hT'
  · exact hT'
theorem dGot_fine (n upto : Int) (h : ∀ m, m < 6 → 0 ≤ (T m).got ∧ (T m).got + (T m).codes.length ≤ B) : ∀ m, m < 6 → 0 ≤ ((dGot T n upto).2 m).got ∧ ((dGot T n upto).2 m).got + ((dGot T n upto).2 m).codes.length ≤ (B : Int) := by
  intro m hm
  have hT := h m hm
  unfold dGot
  split
  · split
    · exact hT
    · split
      · rename_i h1 h2 h3
        dsimp only
        unfold Tb.upd
        by_cases e : m = n.toNat
        · rw [if_pos e]
          rw [← e] at h2 h3 ⊢
          unfold nextOf at h2
          simp only [List.length_drop]
          omega
        · rw [if_neg e]
          exact hT
      · exact hT
  · exact hT
theorem rPut_fine (n seq code : Int) (h : ∀ m, m < 6 → 0 ≤ (X m).ahead ∧ (X m).ahead ≤ (X m).got ∧ (X m).got ≤ (X m).ahead + (X m).codes.length ∧ (X m).ahead + (X m).codes.length ≤ B) : ∀ m, m < 6 → 0 ≤ ((rPut X n seq code).2 m).ahead ∧ ((rPut X n seq code).2 m).ahead ≤ ((rPut X n seq code).2 m).got ∧ ((rPut X n seq code).2 m).got ≤ ((rPut X n seq code).2 m).ahead + ((rPut X n seq code).2 m).codes.length ∧ ((rPut X n seq code).2 m).ahead + ((rPut X n seq code).2 m).codes.length ≤ ((B + 1 : Nat) : Int) := by
  intro m hm
  have hT := h m hm
  have hT' : 0 ≤ (X m).ahead ∧ (X m).ahead ≤ (X m).got ∧ (X m).got ≤ (X m).ahead + (X m).codes.length ∧ (X m).ahead + (X m).codes.length ≤ ((B + 1 : Nat) : Int) := by omega
  unfold rPut
  split
  · split
    · exact hT'
    · split
      · exact hT'
      · split
        · exact hT'
        · split
          · exact hT'
          · dsimp only
            unfold Rb.upd
            by_cases e : m = n.toNat
            · rw [if_pos e, ← e]
              simp only [List.length_append, List.length_cons, List.length_nil]
              omega
            · rw [if_neg e]
              exact hT'
  · exact hT'
theorem rGets_fine (n upto : Int) (h : ∀ m, m < 6 → 0 ≤ (X m).ahead ∧ (X m).ahead ≤ (X m).got ∧ (X m).got ≤ (X m).ahead + (X m).codes.length ∧ (X m).ahead + (X m).codes.length ≤ B) : ∀ m, m < 6 → 0 ≤ ((rGets X n upto).2 m).ahead ∧ ((rGets X n upto).2 m).ahead ≤ ((rGets X n upto).2 m).got ∧ ((rGets X n upto).2 m).got ≤ ((rGets X n upto).2 m).ahead + ((rGets X n upto).2 m).codes.length ∧ ((rGets X n upto).2 m).ahead + ((rGets X n upto).2 m).codes.length ≤ (B : Int) := by
  intro m hm
  have hT := h m hm
  unfold rGets
  split
  · split
    · exact hT
    · rename_i h1 h2
      dsimp only
      unfold Rb.upd
      by_cases e : m = n.toNat
      · rw [if_pos e]
        rw [← e] at h2 ⊢
        unfold rnextOf at h2
        dsimp only
        split <;> omega
      · rw [if_neg e]
        exact hT
  · exact hT
theorem Put_both (n seq code : Int) (w : World) (h : Both ok N B w t x xl T X) (hb : B + 1 ≤ 100000) : Calls Try.prog 13 #[.pointer (some ⟨t, 0, none⟩), .int .i64 n, .int .i64 seq, .int .i64 code] w fun e w' => e = .returned (.int .i64 (dPut T n seq code).1) ∧ Both ok N (B + 1) w' t x xl (dPut T n seq code).2 X ∧ Chg (fun k => k = t ∨ k = xl) w w' :=
  (Put_calls ok t T n seq code w h.tab h.fines h.okt (fun k hk => h.new k (Nat.le_trans h.size hk))).mono fun e w' he => by
    obtain ⟨he, ht, hc⟩ := he
    have h' := h.more (Nat.le_succ B) hb
    exact ⟨he, ⟨ht, h.ref.chg hc (Ne.symm h.tx) (Ne.symm h.tl) h.okt, dPut_fine n seq code h.fine, h'.rfine, hb, h.okt, h.okx, h.okl, h.tx, h.tl, h.xx, h.new, Nat.le_trans h.size hc.low.size⟩, hc.mono (fun _ => .inl)⟩
theorem Got_both (n upto : Int) (w : World) (h : Both ok N B w t x xl T X) : Calls Try.prog 11 #[.pointer (some ⟨t, 0, none⟩), .int .i64 n, .int .i64 upto] w fun e w' => e = .returned (.int .i64 (dGot T n upto).1) ∧ Both ok N B w' t x xl (dGot T n upto).2 X ∧ Chg (fun k => k = t ∨ k = xl) w w' :=
  (Got_calls ok t T n upto w h.tab h.fines h.okt (fun k hk => h.new k (Nat.le_trans h.size hk))).mono fun e w' he => by
    obtain ⟨he, ht, hc⟩ := he
    exact ⟨he, ⟨ht, h.ref.chg hc (Ne.symm h.tx) (Ne.symm h.tl) h.okt, dGot_fine n upto h.fine, h.rfine, h.room, h.okt, h.okx, h.okl, h.tx, h.tl, h.xx, h.new, Nat.le_trans h.size hc.low.size⟩, hc.mono (fun _ => .inl)⟩
theorem rPut_both (n seq code : Int) (w : World) (h : Both ok N B w t x xl T X) (hs : -9223372036854775808 ≤ seq ∧ seq ≤ 9223372036854775807) (hb : B + 1 ≤ 100000) : Calls Try.prog 28 #[.pointer (some ⟨x, 0, none⟩), .int .i64 n, .int .i64 seq, .int .i64 code] w fun e w' => e = .returned (.int .i64 (rPut X n seq code).1) ∧ Both ok N (B + 1) w' t x xl T (rPut X n seq code).2 ∧ Chg (fun k => k = t ∨ k = xl) w w' :=
  (rPut_calls ok x xl X n seq code w h.ref h.rfines h.okl (fun k hk => h.new k (Nat.le_trans h.size hk)) h.xx hs).mono fun e w' he => by
    obtain ⟨he, ht, hc⟩ := he
    have h' := h.more (Nat.le_succ B) hb
    exact ⟨he, ⟨h.tab.chg hc h.tl h.okl, ht, h'.fine, rPut_fine n seq code h.rfine, hb, h.okt, h.okx, h.okl, h.tx, h.tl, h.xx, h.new, Nat.le_trans h.size hc.low.size⟩, hc.mono (fun _ => .inr)⟩
theorem rGets_both (n upto : Int) (w : World) (h : Both ok N B w t x xl T X) : Calls Try.prog 29 #[.pointer (some ⟨x, 0, none⟩), .int .i64 n, .int .i64 upto] w fun e w' => e = .returned (.int .i64 (rGets X n upto).1) ∧ Both ok N B w' t x xl T (rGets X n upto).2 ∧ Chg (fun k => k = t ∨ k = xl) w w' :=
  (rGets_calls ok x xl X n upto w h.ref h.rfines h.okl h.xx).mono fun e w' he => by
    obtain ⟨he, ht, hc⟩ := he
    exact ⟨he, ⟨h.tab.chg hc h.tl h.okl, ht, h.fine, rGets_fine n upto h.rfine, h.room, h.okt, h.okx, h.okl, h.tx, h.tl, h.xx, h.new, Nat.le_trans h.size hc.low.size⟩, hc.mono (fun _ => .inr)⟩
theorem both_quiet {f : FuncId} {args : Array Value} {v : Value} (w : World) (h : Both ok N B w t x xl T X) (hc : Calls Try.prog f args w fun e w' => e = .returned v ∧ ∃ k, w' = w.drewN k) : Calls Try.prog f args w fun e w' => e = .returned v ∧ Both ok N B w' t x xl T X ∧ Chg (fun k => k = t ∨ k = xl) w w' :=
  hc.mono fun e w' he => by
    obtain ⟨he, k, rfl⟩ := he
    have hk := (Chg.refl (fun k : Nat => False) w).drewN k
    exact ⟨he, h.chg hk (fun _ h => h), hk.mono (fun _ h => h.elim)⟩
theorem Next_both (n : Int) (w : World) (h : Both ok N B w t x xl T X) : Calls Try.prog 12 #[.pointer (some ⟨t, 0, none⟩), .int .i64 n] w fun e w' => e = .returned (.int .i64 (dNext T n)) ∧ Both ok N B w' t x xl T X ∧ Chg (fun k => k = t ∨ k = xl) w w' := both_quiet w h (Next_calls ok t T n w h.tab h.fines)
theorem First_both (n : Int) (w : World) (h : Both ok N B w t x xl T X) : Calls Try.prog 23 #[.pointer (some ⟨t, 0, none⟩), .int .i64 n] w fun e w' => e = .returned (.int .i64 (dFirst T n)) ∧ Both ok N B w' t x xl T X ∧ Chg (fun k => k = t ∨ k = xl) w w' := both_quiet w h (First_calls ok t T n w h.tab h.fines)
theorem Code_both (n seq : Int) (w : World) (h : Both ok N B w t x xl T X) : Calls Try.prog 14 #[.pointer (some ⟨t, 0, none⟩), .int .i64 n, .int .i64 seq] w fun e w' => e = .returned (.tuple #[.int .i64 (dCode T n seq).1, .int .i64 (dCode T n seq).2]) ∧ Both ok N B w' t x xl T X ∧ Chg (fun k => k = t ∨ k = xl) w w' := both_quiet w h (Code_calls ok t T n seq w h.tab h.fines)
theorem rNext_both (n : Int) (w : World) (h : Both ok N B w t x xl T X) : Calls Try.prog 18 #[.pointer (some ⟨x, 0, none⟩), .int .i64 n] w fun e w' => e = .returned (.int .i64 (rNext X n)) ∧ Both ok N B w' t x xl T X ∧ Chg (fun k => k = t ∨ k = xl) w w' := both_quiet w h (rNext_calls ok x xl X n w h.ref h.rfines)
theorem rNext_is (n v : Int) (w : World) (hv : rNext X n = v) (h : Both ok N B w t x xl T X) : Calls Try.prog 18 #[.pointer (some ⟨x, 0, none⟩), .int .i64 n] w fun e w' => e = .returned (.int .i64 v) ∧ Both ok N B w' t x xl T X ∧ Chg (fun k => k = t ∨ k = xl) w w' := by
  subst hv
  exact rNext_both n w h
theorem rCode_both (n seq : Int) (w : World) (h : Both ok N B w t x xl T X) : Calls Try.prog 30 #[.pointer (some ⟨x, 0, none⟩), .int .i64 n, .int .i64 seq] w fun e w' => e = .returned (.tuple #[.int .i64 (rCode X n seq).1, .int .i64 (rCode X n seq).2]) ∧ Both ok N B w' t x xl T X ∧ Chg (fun k => k = t ∨ k = xl) w w' := both_quiet w h (rCode_calls ok x xl X n seq w h.ref h.rfines)
end

set_option maxHeartbeats 4000000 in
set_option maxRecDepth 100000 in
theorem do_put (ok : Nat → Prop) (N B t x xl : Nat) (T : Tb) (X : Rb) (kd cl sq co : Int) (w : World) (hB : Both ok N B w t x xl T X) (hbb : B + 2 ≤ 100000) (hs : -9223372036854775808 ≤ sq ∧ sq ≤ 9223372036854775807) (hk : kd = 0 ∨ kd = 1) :
    Calls Try.prog 16 #[.pointer (some ⟨t, 0, none⟩), .pointer (some ⟨x, 0, none⟩), .agg #[.int .i64 kd, .int .i64 cl, .int .i64 sq, .int .i64 co]] w fun e w' => e = .returned (.bool ((dPut T cl sq co).1 == (rPut X cl sq co).1)) ∧ Both ok N (B + 2) w' t x xl ((dPut T cl sq co).2) ((rPut X cl sq co).2) ∧ Chg (fun k => k = t ∨ k = xl) w w' := by
  have HB0 := Aside0.mk hB
  have HS := Aside0.mk hs
  have HBB := Aside0.mk hbb
  clear hB hs hbb
  rcases hk with hk | hk
  case' inl => have k0 : (kd == 0) = true := by simpa using hk
  case' inr => (have k0 : (kd == 0) = false := by (rw [hk]; rfl)); (have k1 : (kd == 1) = true := by simpa using hk)
  all_goals
    clear hk
    go_enter Try.func16, Try.ntmps16
    go_wp2_with (first | ((with_reducible refine gate_dst (N := 5) rfl ?_); refine box_event ?hg (N := 5) ?hd (cs := #[.int .i64 kd, .int .i64 cl, .int .i64 sq, .int .i64 co]) (t := 28) ?hr ?_; (case hd => rfl); (case hg => rfl); (case hr => first | (go_simp; done) | (go_simp; rfl)); intro gA hgA w1 hbox hb1; have hk := Aside0.mk (Chg.of_below hb1 (fun k => k = t ∨ k = xl)); have HA := Aside0.mk (show w.heap.size ≤ gA from Nat.le_of_eq hgA.symm); have BK := Aside0.mk hbox; have HB := Aside0.mk (HB0.out.chg (Chg.of_below hb1 (fun _ => False)) (fun _ h => h.elim)); obtain ⟨d0, d1, d2, d3, f0, f1, f2, f3⟩ := box4 hbox; clear hb1 hbox hgA))
    refine wp_plan [(0, 0, 17), (1, 0, 18), (2, 0, 19), (3, 0, 20), (4, 0, 21), (5, 0, 22), (6, 0, 23), (8, 0, 25), (9, 0, 26), (10, 0, 27), (11, 0, 28), (12, 0, 29), (13, 0, 30), (14, 0, 31), (7, 2, 24), (15, 2, 32), (16, 1, 33), (17, 1, 6)] [] (fun W => W.cell? ⟨gA, 0, none⟩ = some (.int .i64 kd) ∧ W.cell? ⟨gA, 1, none⟩ = some (.int .i64 cl) ∧ W.cell? ⟨gA, 2, none⟩ = some (.int .i64 sq) ∧ W.cell? ⟨gA, 3, none⟩ = some (.int .i64 co)) (by kernel_rfl) rfl (by kernel_rfl) (fun _ t _ _ _ h => by cases t <;> exact h) ⟨d0, d1, d2, d3⟩ (fun hS => ?_)
    clear d0 d1 d2 d3 f0 f1 f2 f3
    have n0 := Aside0.mk (HB.out.chg ((Chg.refl (fun _ => False) _).drewN 1) (fun _ h => h.elim)); have n1 := Aside0.mk (hk.out.drewN 1); have n2 := Aside0.mk (blk_drewN BK.out 1); clear HB hk BK; have HB := n0; have hk := n1; have BK := n2; clear n0 n1 n2
    repeat (refine RP.take (v := ?_) (a' := ?_) rfl rfl (by assumption) (Or.inl ⟨by rfl, ?_⟩) ?_ ?_; rotate_left; (focus (rintro w' ⟨hS0, hS1, hS2, hS3⟩; go_simp; with_reducible rfl)); rotate_left; (focus (simp only [Act.put, List.setIfInBounds_toArray, List.set_cons_zero, List.set_cons_succ, i64_w, i32_w]; rfl)))
    refine RP.one rfl rfl (fun K hK => ?_)
    refine goes_ Try.func13 (by kernel_rfl) rfl #[.pointer (some ⟨t, 0, none⟩), .int .i64 cl, .int .i64 sq, .int .i64 co] (by rfl) rfl rfl (by (try simp only [List.map_toArray, List.map_cons, List.map_nil]); first | done | rfl) ?_
    (with_reducible refine (Put_both cl sq co _ HB.out (by have := HBB.out; omega)).mono ?_)
    rintro e w2 ⟨rfl, hbo, hc⟩
    refine ⟨_, rfl, ?_⟩
    (have n0 := Aside0.mk (hk.out.trans hc); have n1 := Aside0.mk ((hc.keep gA (blk_lt BK.out) (HB0.out.away HA.out)).trans BK.out); have n2 := Aside0.mk hbo; clear hk BK HB; have hk := n0; have BK := n1; have HB := n2; clear n0 n1 n2 hc hbo)
    refine hK.out _ _ ⟨(blk_cell BK.out 0).trans rfl, (blk_cell BK.out 1).trans rfl, (blk_cell BK.out 2).trans rfl, (blk_cell BK.out 3).trans rfl⟩ (fun hS => ?_)
    clear hK K
    refine RP.norm (a' := ?_) ?_ ?_
    rotate_left
    · show Act.put _ (some 24) _ = _
      simp only [Act.put, List.setIfInBounds_toArray, List.set_cons_zero, List.set_cons_succ, i64_w, i32_w]
      rfl
    refine RP.one rfl rfl (fun K hK => ?_)
    refine goes_ Try.func28 (by kernel_rfl) rfl #[.pointer (some ⟨x, 0, none⟩), .int .i64 cl, .int .i64 sq, .int .i64 co] (by rfl) rfl rfl (by (try simp only [List.map_toArray, List.map_cons, List.map_nil]); first | done | rfl) ?_
    (with_reducible refine (rPut_both cl sq co _ HB.out HS.out (by have := HBB.out; omega)).mono ?_)
    rintro e w2 ⟨rfl, hbo, hc⟩
    refine ⟨_, rfl, ?_⟩
    (have n0 := Aside0.mk (hk.out.trans hc); have n1 := Aside0.mk ((hc.keep gA (blk_lt BK.out) (HB0.out.away HA.out)).trans BK.out); have n2 := Aside0.mk hbo; clear hk BK HB; have hk := n0; have BK := n1; have HB := n2; clear n0 n1 n2 hc hbo)
    refine hK.out _ _ ⟨(blk_cell BK.out 0).trans rfl, (blk_cell BK.out 1).trans rfl, (blk_cell BK.out 2).trans rfl, (blk_cell BK.out 3).trans rfl⟩ (fun hS => ?_)
    clear hK K
    refine RP.norm (a' := ?_) ?_ ?_
    rotate_left
    · show Act.put _ (some 32) _ = _
      simp only [Act.put, List.setIfInBounds_toArray, List.set_cons_zero, List.set_cons_succ, i64_w, i32_w]
      rfl
    repeat (refine RP.pure (v := ?_) (a' := ?_) rfl rfl (Or.inl ⟨by rfl, ?_⟩) ?_ ?_; rotate_left; (focus (intro w'; go_simp; with_reducible rfl)); rotate_left; (focus (simp only [Act.put, List.setIfInBounds_toArray, List.set_cons_zero, List.set_cons_succ, i64_w, i32_w]; rfl)))
    refine RP.nil ?_
    go_wp2
    go_ret
    exact ⟨rfl, HB.out.more (by omega) HBB.out, hk.out⟩
set_option maxHeartbeats 4000000 in
set_option maxRecDepth 100000 in
theorem do_next (ok : Nat → Prop) (N B t x xl : Nat) (T : Tb) (X : Rb) (kd cl sq co : Int) (w : World) (hB : Both ok N B w t x xl T X) (hbb : B + 2 ≤ 100000) (hs : -9223372036854775808 ≤ sq ∧ sq ≤ 9223372036854775807) (hk : kd = 2 ∨ kd = 3) :
    Calls Try.prog 16 #[.pointer (some ⟨t, 0, none⟩), .pointer (some ⟨x, 0, none⟩), .agg #[.int .i64 kd, .int .i64 cl, .int .i64 sq, .int .i64 co]] w fun e w' => e = .returned (.bool ((dPut T cl (dNext T cl) co).1 == (rPut X cl (rNext X cl) co).1)) ∧ Both ok N (B + 2) w' t x xl ((dPut T cl (dNext T cl) co).2) ((rPut X cl (rNext X cl) co).2) ∧ Chg (fun k => k = t ∨ k = xl) w w' := by
  have HB0 := Aside0.mk hB
  have HS := Aside0.mk hs
  have HBB := Aside0.mk hbb
  clear hB hs hbb
  have k0 : (kd == 0) = false := by (rcases hk with rfl | rfl <;> rfl)
  have k1 : (kd == 1) = false := by (rcases hk with rfl | rfl <;> rfl)
  rcases hk with hk | hk
  case' inl => have k2 : (kd == 2) = true := by simpa using hk
  case' inr => (have k2 : (kd == 2) = false := by (rw [hk]; rfl)); (have k3 : (kd == 3) = true := by simpa using hk)
  all_goals
    clear hk
    go_enter Try.func16, Try.ntmps16
    go_wp2_with (first | ((with_reducible refine gate_dst (N := 5) rfl ?_); refine box_event ?hg (N := 5) ?hd (cs := #[.int .i64 kd, .int .i64 cl, .int .i64 sq, .int .i64 co]) (t := 28) ?hr ?_; (case hd => rfl); (case hg => rfl); (case hr => first | (go_simp; done) | (go_simp; rfl)); intro gA hgA w1 hbox hb1; have hk := Aside0.mk (Chg.of_below hb1 (fun k => k = t ∨ k = xl)); have HA := Aside0.mk (show w.heap.size ≤ gA from Nat.le_of_eq hgA.symm); have BK := Aside0.mk hbox; have HB := Aside0.mk (HB0.out.chg (Chg.of_below hb1 (fun _ => False)) (fun _ h => h.elim)); obtain ⟨d0, d1, d2, d3, f0, f1, f2, f3⟩ := box4 hbox; clear hb1 hbox hgA))
    refine wp_plan [(0, 0, 37), (1, 0, 38), (2, 0, 39), (3, 0, 40), (4, 0, 41), (5, 0, 42), (7, 0, 44), (8, 0, 45), (10, 0, 47), (11, 0, 48), (12, 0, 49), (13, 0, 50), (14, 0, 51), (15, 0, 52), (17, 0, 54), (18, 0, 55), (6, 2, 43), (9, 2, 46), (16, 2, 53), (19, 2, 56), (20, 1, 57), (21, 1, 6)] [] (fun W => W.cell? ⟨gA, 0, none⟩ = some (.int .i64 kd) ∧ W.cell? ⟨gA, 1, none⟩ = some (.int .i64 cl) ∧ W.cell? ⟨gA, 2, none⟩ = some (.int .i64 sq) ∧ W.cell? ⟨gA, 3, none⟩ = some (.int .i64 co)) (by kernel_rfl) rfl (by kernel_rfl) (fun _ t _ _ _ h => by cases t <;> exact h) ⟨d0, d1, d2, d3⟩ (fun hS => ?_)
    clear d0 d1 d2 d3 f0 f1 f2 f3
    have n0 := Aside0.mk (HB.out.chg ((Chg.refl (fun _ => False) _).drewN 1) (fun _ h => h.elim)); have n1 := Aside0.mk (hk.out.drewN 1); have n2 := Aside0.mk (blk_drewN BK.out 1); clear HB hk BK; have HB := n0; have hk := n1; have BK := n2; clear n0 n1 n2
    repeat (refine RP.take (v := ?_) (a' := ?_) rfl rfl (by assumption) (Or.inl ⟨by rfl, ?_⟩) ?_ ?_; rotate_left; (focus (rintro w' ⟨hS0, hS1, hS2, hS3⟩; go_simp; with_reducible rfl)); rotate_left; (focus (simp only [Act.put, List.setIfInBounds_toArray, List.set_cons_zero, List.set_cons_succ, i64_w, i32_w]; rfl)))
    refine RP.one rfl rfl (fun K hK => ?_)
    refine goes_ Try.func12 (by kernel_rfl) rfl #[.pointer (some ⟨t, 0, none⟩), .int .i64 cl] (by rfl) rfl rfl (by (try simp only [List.map_toArray, List.map_cons, List.map_nil]); first | done | rfl) ?_
    (with_reducible refine (Next_both cl _ HB.out).mono ?_)
    rintro e w2 ⟨rfl, hbo, hc⟩
    refine ⟨_, rfl, ?_⟩
    (have n0 := Aside0.mk (hk.out.trans hc); have n1 := Aside0.mk ((hc.keep gA (blk_lt BK.out) (HB0.out.away HA.out)).trans BK.out); have n2 := Aside0.mk hbo; clear hk BK HB; have hk := n0; have BK := n1; have HB := n2; clear n0 n1 n2 hc hbo)
    refine hK.out _ _ ⟨(blk_cell BK.out 0).trans rfl, (blk_cell BK.out 1).trans rfl, (blk_cell BK.out 2).trans rfl, (blk_cell BK.out 3).trans rfl⟩ (fun hS => ?_)
    clear hK K
    refine RP.norm (a' := ?_) ?_ ?_
    rotate_left
    · show Act.put _ (some 43) _ = _
      simp only [Act.put, List.setIfInBounds_toArray, List.set_cons_zero, List.set_cons_succ, i64_w, i32_w]
      rfl
    refine RP.one rfl rfl (fun K hK => ?_)
    refine goes_ Try.func13 (by kernel_rfl) rfl #[.pointer (some ⟨t, 0, none⟩), .int .i64 cl, .int .i64 (dNext T cl), .int .i64 co] (by rfl) rfl rfl (by (try simp only [List.map_toArray, List.map_cons, List.map_nil]); first | done | rfl) ?_
    (with_reducible refine (Put_both cl (dNext T cl) co _ HB.out (by have := HBB.out; omega)).mono ?_)
    rintro e w2 ⟨rfl, hbo, hc⟩
    refine ⟨_, rfl, ?_⟩
    (have n0 := Aside0.mk (hk.out.trans hc); have n1 := Aside0.mk ((hc.keep gA (blk_lt BK.out) (HB0.out.away HA.out)).trans BK.out); have n2 := Aside0.mk hbo; clear hk BK HB; have hk := n0; have BK := n1; have HB := n2; clear n0 n1 n2 hc hbo)
    refine hK.out _ _ ⟨(blk_cell BK.out 0).trans rfl, (blk_cell BK.out 1).trans rfl, (blk_cell BK.out 2).trans rfl, (blk_cell BK.out 3).trans rfl⟩ (fun hS => ?_)
    clear hK K
    refine RP.norm (a' := ?_) ?_ ?_
    rotate_left
    · show Act.put _ (some 46) _ = _
      simp only [Act.put, List.setIfInBounds_toArray, List.set_cons_zero, List.set_cons_succ, i64_w, i32_w]
      rfl
    refine RP.one rfl rfl (fun K hK => ?_)
    refine goes_ Try.func18 (by kernel_rfl) rfl #[.pointer (some ⟨x, 0, none⟩), .int .i64 cl] (by rfl) rfl rfl (by (try simp only [List.map_toArray, List.map_cons, List.map_nil]); first | done | rfl) ?_
    (with_reducible refine (rNext_both cl _ HB.out).mono ?_)
    rintro e w2 ⟨rfl, hbo, hc⟩
    refine ⟨_, rfl, ?_⟩
    (have n0 := Aside0.mk (hk.out.trans hc); have n1 := Aside0.mk ((hc.keep gA (blk_lt BK.out) (HB0.out.away HA.out)).trans BK.out); have n2 := Aside0.mk hbo; clear hk BK HB; have hk := n0; have BK := n1; have HB := n2; clear n0 n1 n2 hc hbo)
    refine hK.out _ _ ⟨(blk_cell BK.out 0).trans rfl, (blk_cell BK.out 1).trans rfl, (blk_cell BK.out 2).trans rfl, (blk_cell BK.out 3).trans rfl⟩ (fun hS => ?_)
    clear hK K
    refine RP.norm (a' := ?_) ?_ ?_
    rotate_left
    · show Act.put _ (some 53) _ = _
      simp only [Act.put, List.setIfInBounds_toArray, List.set_cons_zero, List.set_cons_succ, i64_w, i32_w]
      rfl
    refine RP.one rfl rfl (fun K hK => ?_)
    refine goes_ Try.func28 (by kernel_rfl) rfl #[.pointer (some ⟨x, 0, none⟩), .int .i64 cl, .int .i64 (rNext X cl), .int .i64 co] (by rfl) rfl rfl (by (try simp only [List.map_toArray, List.map_cons, List.map_nil]); first | done | rfl) ?_
    (with_reducible refine (rPut_both cl (rNext X cl) co _ HB.out (HB.out.next_in cl) (by have := HBB.out; omega)).mono ?_)
    rintro e w2 ⟨rfl, hbo, hc⟩
    refine ⟨_, rfl, ?_⟩
    (have n0 := Aside0.mk (hk.out.trans hc); have n1 := Aside0.mk ((hc.keep gA (blk_lt BK.out) (HB0.out.away HA.out)).trans BK.out); have n2 := Aside0.mk hbo; clear hk BK HB; have hk := n0; have BK := n1; have HB := n2; clear n0 n1 n2 hc hbo)
    refine hK.out _ _ ⟨(blk_cell BK.out 0).trans rfl, (blk_cell BK.out 1).trans rfl, (blk_cell BK.out 2).trans rfl, (blk_cell BK.out 3).trans rfl⟩ (fun hS => ?_)
    clear hK K
    refine RP.norm (a' := ?_) ?_ ?_
    rotate_left
    · show Act.put _ (some 56) _ = _
      simp only [Act.put, List.setIfInBounds_toArray, List.set_cons_zero, List.set_cons_succ, i64_w, i32_w]
      rfl
    repeat (refine RP.pure (v := ?_) (a' := ?_) rfl rfl (Or.inl ⟨by rfl, ?_⟩) ?_ ?_; rotate_left; (focus (intro w'; go_simp; with_reducible rfl)); rotate_left; (focus (simp only [Act.put, List.setIfInBounds_toArray, List.set_cons_zero, List.set_cons_succ, i64_w, i32_w]; rfl)))
    refine RP.nil ?_
    go_wp2
    go_ret
    exact ⟨rfl, HB.out.more (by omega) HBB.out, hk.out⟩
set_option maxHeartbeats 4000000 in
set_option maxRecDepth 100000 in
theorem do_got (ok : Nat → Prop) (N B t x xl : Nat) (T : Tb) (X : Rb) (kd cl sq co : Int) (w : World) (hB : Both ok N B w t x xl T X) (hbb : B + 2 ≤ 100000) (hs : -9223372036854775808 ≤ sq ∧ sq ≤ 9223372036854775807) (hk : kd = 4) :
    Calls Try.prog 16 #[.pointer (some ⟨t, 0, none⟩), .pointer (some ⟨x, 0, none⟩), .agg #[.int .i64 kd, .int .i64 cl, .int .i64 sq, .int .i64 co]] w fun e w' => e = .returned (.bool ((dGot T cl sq).1 == (rGets X cl sq).1)) ∧ Both ok N (B + 2) w' t x xl ((dGot T cl sq).2) ((rGets X cl sq).2) ∧ Chg (fun k => k = t ∨ k = xl) w w' := by
  have HB0 := Aside0.mk hB
  have HS := Aside0.mk hs
  have HBB := Aside0.mk hbb
  clear hB hs hbb
  subst hk
  go_enter Try.func16, Try.ntmps16
  go_wp2_with (first | ((with_reducible refine gate_dst (N := 5) rfl ?_); refine box_event ?hg (N := 5) ?hd (cs := #[.int .i64 4, .int .i64 cl, .int .i64 sq, .int .i64 co]) (t := 28) ?hr ?_; (case hd => rfl); (case hg => rfl); (case hr => first | (go_simp; done) | (go_simp; rfl)); intro gA hgA w1 hbox hb1; have hk := Aside0.mk (Chg.of_below hb1 (fun k => k = t ∨ k = xl)); have HA := Aside0.mk (show w.heap.size ≤ gA from Nat.le_of_eq hgA.symm); have BK := Aside0.mk hbox; have HB := Aside0.mk (HB0.out.chg (Chg.of_below hb1 (fun _ => False)) (fun _ h => h.elim)); obtain ⟨d0, d1, d2, d3, f0, f1, f2, f3⟩ := box4 hbox; clear hb1 hbox hgA))
  refine wp_plan [(0, 0, 60), (1, 0, 61), (2, 0, 62), (3, 0, 63), (4, 0, 64), (6, 0, 66), (7, 0, 67), (8, 0, 68), (9, 0, 69), (10, 0, 70), (5, 2, 65), (11, 2, 71), (12, 1, 72), (13, 1, 6)] [] (fun W => W.cell? ⟨gA, 0, none⟩ = some (.int .i64 4) ∧ W.cell? ⟨gA, 1, none⟩ = some (.int .i64 cl) ∧ W.cell? ⟨gA, 2, none⟩ = some (.int .i64 sq) ∧ W.cell? ⟨gA, 3, none⟩ = some (.int .i64 co)) (by kernel_rfl) rfl (by kernel_rfl) (fun _ t _ _ _ h => by cases t <;> exact h) ⟨d0, d1, d2, d3⟩ (fun hS => ?_)
  clear d0 d1 d2 d3 f0 f1 f2 f3
  have n0 := Aside0.mk (HB.out.chg ((Chg.refl (fun _ => False) _).drewN 1) (fun _ h => h.elim)); have n1 := Aside0.mk (hk.out.drewN 1); have n2 := Aside0.mk (blk_drewN BK.out 1); clear HB hk BK; have HB := n0; have hk := n1; have BK := n2; clear n0 n1 n2
  repeat (refine RP.take (v := ?_) (a' := ?_) rfl rfl (by assumption) (Or.inl ⟨by rfl, ?_⟩) ?_ ?_; rotate_left; (focus (rintro w' ⟨hS0, hS1, hS2, hS3⟩; go_simp; with_reducible rfl)); rotate_left; (focus (simp only [Act.put, List.setIfInBounds_toArray, List.set_cons_zero, List.set_cons_succ, i64_w, i32_w]; rfl)))
  refine RP.one rfl rfl (fun K hK => ?_)
  refine goes_ Try.func11 (by kernel_rfl) rfl #[.pointer (some ⟨t, 0, none⟩), .int .i64 cl, .int .i64 sq] (by rfl) rfl rfl (by (try simp only [List.map_toArray, List.map_cons, List.map_nil]); first | done | rfl) ?_
  (with_reducible refine (Got_both cl sq _ HB.out).mono ?_)
  rintro e w2 ⟨rfl, hbo, hc⟩
  refine ⟨_, rfl, ?_⟩
  (have n0 := Aside0.mk (hk.out.trans hc); have n1 := Aside0.mk ((hc.keep gA (blk_lt BK.out) (HB0.out.away HA.out)).trans BK.out); have n2 := Aside0.mk hbo; clear hk BK HB; have hk := n0; have BK := n1; have HB := n2; clear n0 n1 n2 hc hbo)
  refine hK.out _ _ ⟨(blk_cell BK.out 0).trans rfl, (blk_cell BK.out 1).trans rfl, (blk_cell BK.out 2).trans rfl, (blk_cell BK.out 3).trans rfl⟩ (fun hS => ?_)
  clear hK K
  refine RP.norm (a' := ?_) ?_ ?_
  rotate_left
  · show Act.put _ (some 65) _ = _
    simp only [Act.put, List.setIfInBounds_toArray, List.set_cons_zero, List.set_cons_succ, i64_w, i32_w]
    rfl
  refine RP.one rfl rfl (fun K hK => ?_)
  refine goes_ Try.func29 (by kernel_rfl) rfl #[.pointer (some ⟨x, 0, none⟩), .int .i64 cl, .int .i64 sq] (by rfl) rfl rfl (by (try simp only [List.map_toArray, List.map_cons, List.map_nil]); first | done | rfl) ?_
  (with_reducible refine (rGets_both cl sq _ HB.out).mono ?_)
  rintro e w2 ⟨rfl, hbo, hc⟩
  refine ⟨_, rfl, ?_⟩
  (have n0 := Aside0.mk (hk.out.trans hc); have n1 := Aside0.mk ((hc.keep gA (blk_lt BK.out) (HB0.out.away HA.out)).trans BK.out); have n2 := Aside0.mk hbo; clear hk BK HB; have hk := n0; have BK := n1; have HB := n2; clear n0 n1 n2 hc hbo)
  refine hK.out _ _ ⟨(blk_cell BK.out 0).trans rfl, (blk_cell BK.out 1).trans rfl, (blk_cell BK.out 2).trans rfl, (blk_cell BK.out 3).trans rfl⟩ (fun hS => ?_)
  clear hK K
  refine RP.norm (a' := ?_) ?_ ?_
  rotate_left
  · show Act.put _ (some 71) _ = _
    simp only [Act.put, List.setIfInBounds_toArray, List.set_cons_zero, List.set_cons_succ, i64_w, i32_w]
    rfl
  repeat (refine RP.pure (v := ?_) (a' := ?_) rfl rfl (Or.inl ⟨by rfl, ?_⟩) ?_ ?_; rotate_left; (focus (intro w'; go_simp; with_reducible rfl)); rotate_left; (focus (simp only [Act.put, List.setIfInBounds_toArray, List.set_cons_zero, List.set_cons_succ, i64_w, i32_w]; rfl)))
  refine RP.nil ?_
  go_wp2
  go_ret
  exact ⟨rfl, HB.out.more (by omega) HBB.out, hk.out⟩
set_option maxHeartbeats 4000000 in
set_option maxRecDepth 100000 in
theorem do_all0 (ok : Nat → Prop) (N B t x xl : Nat) (T : Tb) (X : Rb) (kd cl sq co : Int) (w : World) (hB : Both ok N B w t x xl T X) (hbb : B + 2 ≤ 100000) (hs : -9223372036854775808 ≤ sq ∧ sq ≤ 9223372036854775807) (hk : kd = 5) (hn : rNext X cl = 0) :
    Calls Try.prog 16 #[.pointer (some ⟨t, 0, none⟩), .pointer (some ⟨x, 0, none⟩), .agg #[.int .i64 kd, .int .i64 cl, .int .i64 sq, .int .i64 co]] w fun e w' => e = .returned (.bool (dNext T cl == 0)) ∧ Both ok N (B + 2) w' t x xl (T) (X) ∧ Chg (fun k => k = t ∨ k = xl) w w' := by
  have HB0 := Aside0.mk hB
  have HS := Aside0.mk hs
  have HBB := Aside0.mk hbb
  clear hB hs hbb
  subst hk
  have HN := Aside0.mk hn
  clear hn
  go_enter Try.func16, Try.ntmps16
  go_wp2_with (first | ((with_reducible refine gate_dst (N := 5) rfl ?_); refine box_event ?hg (N := 5) ?hd (cs := #[.int .i64 5, .int .i64 cl, .int .i64 sq, .int .i64 co]) (t := 28) ?hr ?_; (case hd => rfl); (case hg => rfl); (case hr => first | (go_simp; done) | (go_simp; rfl)); intro gA hgA w1 hbox hb1; have hk := Aside0.mk (Chg.of_below hb1 (fun k => k = t ∨ k = xl)); have HA := Aside0.mk (show w.heap.size ≤ gA from Nat.le_of_eq hgA.symm); have BK := Aside0.mk hbox; have HB := Aside0.mk (HB0.out.chg (Chg.of_below hb1 (fun _ => False)) (fun _ h => h.elim)); obtain ⟨d0, d1, d2, d3, f0, f1, f2, f3⟩ := box4 hbox; clear hb1 hbox hgA) | (go_at_call 18; refine (rNext_is cl _ _ HN.out HB.out).mono ?_; rintro e w2 ⟨rfl, hbo, hc⟩; clear d0 d1 d2 d3 f0 f1 f2 f3; (have n0 := Aside0.mk (hk.out.trans hc); have n1 := Aside0.mk ((hc.keep gA (blk_lt BK.out) (HB0.out.away HA.out)).trans BK.out); have n2 := Aside0.mk hbo; clear hk BK HB; have hk := n0; have BK := n1; have HB := n2; clear n0 n1 n2 hc hbo); obtain ⟨d0, d1, d2, d3, f0, f1, f2, f3⟩ := box4 BK.out) | (go_at_call 12; refine (Next_both cl _ HB.out).mono ?_; rintro e w2 ⟨rfl, hbo, hc⟩; clear d0 d1 d2 d3 f0 f1 f2 f3; (have n0 := Aside0.mk (hk.out.trans hc); have n1 := Aside0.mk ((hc.keep gA (blk_lt BK.out) (HB0.out.away HA.out)).trans BK.out); have n2 := Aside0.mk hbo; clear hk BK HB; have hk := n0; have BK := n1; have HB := n2; clear n0 n1 n2 hc hbo); obtain ⟨d0, d1, d2, d3, f0, f1, f2, f3⟩ := box4 BK.out))
  go_ret
  exact ⟨rfl, HB.out.more (by omega) HBB.out, hk.out⟩
set_option maxHeartbeats 4000000 in
set_option maxRecDepth 100000 in
theorem do_all (ok : Nat → Prop) (N B t x xl : Nat) (T : Tb) (X : Rb) (kd cl sq co : Int) (w : World) (hB : Both ok N B w t x xl T X) (hbb : B + 2 ≤ 100000) (hs : -9223372036854775808 ≤ sq ∧ sq ≤ 9223372036854775807) (hk : kd = 5) (n : Int) (hn : rNext X cl = n) (hn1 : 1 ≤ n) (hn2 : n ≤ 1152921504606846977) :
    Calls Try.prog 16 #[.pointer (some ⟨t, 0, none⟩), .pointer (some ⟨x, 0, none⟩), .agg #[.int .i64 kd, .int .i64 cl, .int .i64 sq, .int .i64 co]] w fun e w' => e = .returned (.bool ((dGot T cl (n - 1)).1 == (rGets X cl (n - 1)).1)) ∧ Both ok N (B + 2) w' t x xl ((dGot T cl (n - 1)).2) ((rGets X cl (n - 1)).2) ∧ Chg (fun k => k = t ∨ k = xl) w w' := by
  have HB0 := Aside0.mk hB
  have HS := Aside0.mk hs
  have HBB := Aside0.mk hbb
  clear hB hs hbb
  subst hk
  have HN := Aside0.mk hn
  clear hn
  have hn3 : (n == 0) = false := by simp; omega
  have s1 : IntKind.i64.wrap (n - 1) = n - 1 := IntWalk.i64_in _ (by omega)
  go_enter Try.func16, Try.ntmps16
  go_wp2_with (first | ((with_reducible refine gate_dst (N := 5) rfl ?_); refine box_event ?hg (N := 5) ?hd (cs := #[.int .i64 5, .int .i64 cl, .int .i64 sq, .int .i64 co]) (t := 28) ?hr ?_; (case hd => rfl); (case hg => rfl); (case hr => first | (go_simp; done) | (go_simp; rfl)); intro gA hgA w1 hbox hb1; have hk := Aside0.mk (Chg.of_below hb1 (fun k => k = t ∨ k = xl)); have HA := Aside0.mk (show w.heap.size ≤ gA from Nat.le_of_eq hgA.symm); have BK := Aside0.mk hbox; have HB := Aside0.mk (HB0.out.chg (Chg.of_below hb1 (fun _ => False)) (fun _ h => h.elim)); obtain ⟨d0, d1, d2, d3, f0, f1, f2, f3⟩ := box4 hbox; clear hb1 hbox hgA) | (go_at_call 18; refine (rNext_is cl _ _ HN.out HB.out).mono ?_; rintro e w2 ⟨rfl, hbo, hc⟩; clear d0 d1 d2 d3 f0 f1 f2 f3; (have n0 := Aside0.mk (hk.out.trans hc); have n1 := Aside0.mk ((hc.keep gA (blk_lt BK.out) (HB0.out.away HA.out)).trans BK.out); have n2 := Aside0.mk hbo; clear hk BK HB; have hk := n0; have BK := n1; have HB := n2; clear n0 n1 n2 hc hbo); obtain ⟨d0, d1, d2, d3, f0, f1, f2, f3⟩ := box4 BK.out))
  refine wp_plan [(0, 0, 86), (1, 0, 87), (2, 0, 88), (3, 0, 89), (4, 0, 90), (6, 0, 92), (7, 0, 93), (8, 0, 94), (9, 0, 95), (10, 0, 96), (5, 2, 91), (11, 2, 97), (12, 1, 98), (13, 1, 6)] [] (fun W => W.cell? ⟨gA, 0, none⟩ = some (.int .i64 5) ∧ W.cell? ⟨gA, 1, none⟩ = some (.int .i64 cl) ∧ W.cell? ⟨gA, 2, none⟩ = some (.int .i64 sq) ∧ W.cell? ⟨gA, 3, none⟩ = some (.int .i64 co)) (by kernel_rfl) rfl (by kernel_rfl) (fun _ t _ _ _ h => by cases t <;> exact h) ⟨d0, d1, d2, d3⟩ (fun hS => ?_)
  clear d0 d1 d2 d3 f0 f1 f2 f3
  have n0 := Aside0.mk (HB.out.chg ((Chg.refl (fun _ => False) _).drewN 1) (fun _ h => h.elim)); have n1 := Aside0.mk (hk.out.drewN 1); have n2 := Aside0.mk (blk_drewN BK.out 1); clear HB hk BK; have HB := n0; have hk := n1; have BK := n2; clear n0 n1 n2
  repeat (refine RP.take (v := ?_) (a' := ?_) rfl rfl (by assumption) (Or.inl ⟨by rfl, ?_⟩) ?_ ?_; rotate_left; (focus (rintro w' ⟨hS0, hS1, hS2, hS3⟩; go_simp; with_reducible rfl)); rotate_left; (focus (simp only [Act.put, List.setIfInBounds_toArray, List.set_cons_zero, List.set_cons_succ, i64_w, i32_w]; rfl)))
  refine RP.one rfl rfl (fun K hK => ?_)
  refine goes_ Try.func11 (by kernel_rfl) rfl #[.pointer (some ⟨t, 0, none⟩), .int .i64 cl, .int .i64 (n - 1)] (by rfl) rfl rfl (by (try simp only [List.map_toArray, List.map_cons, List.map_nil]); first | done | rfl) ?_
  (with_reducible refine (Got_both cl (n - 1) _ HB.out).mono ?_)
  rintro e w2 ⟨rfl, hbo, hc⟩
  refine ⟨_, rfl, ?_⟩
  (have n0 := Aside0.mk (hk.out.trans hc); have n1 := Aside0.mk ((hc.keep gA (blk_lt BK.out) (HB0.out.away HA.out)).trans BK.out); have n2 := Aside0.mk hbo; clear hk BK HB; have hk := n0; have BK := n1; have HB := n2; clear n0 n1 n2 hc hbo)
  refine hK.out _ _ ⟨(blk_cell BK.out 0).trans rfl, (blk_cell BK.out 1).trans rfl, (blk_cell BK.out 2).trans rfl, (blk_cell BK.out 3).trans rfl⟩ (fun hS => ?_)
  clear hK K
  refine RP.norm (a' := ?_) ?_ ?_
  rotate_left
  · show Act.put _ (some 91) _ = _
    simp only [Act.put, List.setIfInBounds_toArray, List.set_cons_zero, List.set_cons_succ, i64_w, i32_w]
    rfl
  refine RP.one rfl rfl (fun K hK => ?_)
  refine goes_ Try.func29 (by kernel_rfl) rfl #[.pointer (some ⟨x, 0, none⟩), .int .i64 cl, .int .i64 (n - 1)] (by rfl) rfl rfl (by (try simp only [List.map_toArray, List.map_cons, List.map_nil]); first | done | rfl) ?_
  (with_reducible refine (rGets_both cl (n - 1) _ HB.out).mono ?_)
  rintro e w2 ⟨rfl, hbo, hc⟩
  refine ⟨_, rfl, ?_⟩
  (have n0 := Aside0.mk (hk.out.trans hc); have n1 := Aside0.mk ((hc.keep gA (blk_lt BK.out) (HB0.out.away HA.out)).trans BK.out); have n2 := Aside0.mk hbo; clear hk BK HB; have hk := n0; have BK := n1; have HB := n2; clear n0 n1 n2 hc hbo)
  refine hK.out _ _ ⟨(blk_cell BK.out 0).trans rfl, (blk_cell BK.out 1).trans rfl, (blk_cell BK.out 2).trans rfl, (blk_cell BK.out 3).trans rfl⟩ (fun hS => ?_)
  clear hK K
  refine RP.norm (a' := ?_) ?_ ?_
  rotate_left
  · show Act.put _ (some 97) _ = _
    simp only [Act.put, List.setIfInBounds_toArray, List.set_cons_zero, List.set_cons_succ, i64_w, i32_w]
    rfl
  repeat (refine RP.pure (v := ?_) (a' := ?_) rfl rfl (Or.inl ⟨by rfl, ?_⟩) ?_ ?_; rotate_left; (focus (intro w'; go_simp; with_reducible rfl)); rotate_left; (focus (simp only [Act.put, List.setIfInBounds_toArray, List.set_cons_zero, List.set_cons_succ, i64_w, i32_w]; rfl)))
  refine RP.nil ?_
  go_wp2
  go_ret
  exact ⟨rfl, HB.out.more (by omega) HBB.out, hk.out⟩
set_option maxHeartbeats 4000000 in
set_option maxRecDepth 100000 in
theorem do_code (ok : Nat → Prop) (N B t x xl : Nat) (T : Tb) (X : Rb) (kd cl sq co : Int) (w : World) (hB : Both ok N B w t x xl T X) (hbb : B + 2 ≤ 100000) (hs : -9223372036854775808 ≤ sq ∧ sq ≤ 9223372036854775807) (hk : ¬ kd = 0 ∧ ¬ kd = 1 ∧ ¬ kd = 2 ∧ ¬ kd = 3 ∧ ¬ kd = 4 ∧ ¬ kd = 5) :
    Calls Try.prog 16 #[.pointer (some ⟨t, 0, none⟩), .pointer (some ⟨x, 0, none⟩), .agg #[.int .i64 kd, .int .i64 cl, .int .i64 sq, .int .i64 co]] w fun e w' => e = .returned (.bool ((dCode T cl sq).1 == (rCode X cl sq).1 && (dCode T cl sq).2 == (rCode X cl sq).2)) ∧ Both ok N (B + 2) w' t x xl (T) (X) ∧ Chg (fun k => k = t ∨ k = xl) w w' := by
  have HB0 := Aside0.mk hB
  have HS := Aside0.mk hs
  have HBB := Aside0.mk hbb
  clear hB hs hbb
  obtain ⟨k0, k1, k2, k3, k4, k5⟩ := hk
  have k0 : (kd == 0) = false := by simpa using k0
  have k1 : (kd == 1) = false := by simpa using k1
  have k2 : (kd == 2) = false := by simpa using k2
  have k3 : (kd == 3) = false := by simpa using k3
  have k4 : (kd == 4) = false := by simpa using k4
  have k5 : (kd == 5) = false := by simpa using k5
  go_enter Try.func16, Try.ntmps16
  go_wp2_with (first | ((with_reducible refine gate_dst (N := 5) rfl ?_); refine box_event ?hg (N := 5) ?hd (cs := #[.int .i64 kd, .int .i64 cl, .int .i64 sq, .int .i64 co]) (t := 28) ?hr ?_; (case hd => rfl); (case hg => rfl); (case hr => first | (go_simp; done) | (go_simp; rfl)); intro gA hgA w1 hbox hb1; have hk := Aside0.mk (Chg.of_below hb1 (fun k => k = t ∨ k = xl)); have HA := Aside0.mk (show w.heap.size ≤ gA from Nat.le_of_eq hgA.symm); have BK := Aside0.mk hbox; have HB := Aside0.mk (HB0.out.chg (Chg.of_below hb1 (fun _ => False)) (fun _ h => h.elim)); obtain ⟨d0, d1, d2, d3, f0, f1, f2, f3⟩ := box4 hbox; clear hb1 hbox hgA) | (go_at_call 14; refine (Code_both cl sq _ HB.out).mono ?_; rintro e w2 ⟨rfl, hbo, hc⟩; clear d0 d1 d2 d3 f0 f1 f2 f3; (have n0 := Aside0.mk (hk.out.trans hc); have n1 := Aside0.mk ((hc.keep gA (blk_lt BK.out) (HB0.out.away HA.out)).trans BK.out); have n2 := Aside0.mk hbo; clear hk BK HB; have hk := n0; have BK := n1; have HB := n2; clear n0 n1 n2 hc hbo); obtain ⟨d0, d1, d2, d3, f0, f1, f2, f3⟩ := box4 BK.out) | (go_at_call 30; refine (rCode_both cl sq _ HB.out).mono ?_; rintro e w2 ⟨rfl, hbo, hc⟩; clear d0 d1 d2 d3 f0 f1 f2 f3; (have n0 := Aside0.mk (hk.out.trans hc); have n1 := Aside0.mk ((hc.keep gA (blk_lt BK.out) (HB0.out.away HA.out)).trans BK.out); have n2 := Aside0.mk hbo; clear hk BK HB; have hk := n0; have BK := n1; have HB := n2; clear n0 n1 n2 hc hbo); obtain ⟨d0, d1, d2, d3, f0, f1, f2, f3⟩ := box4 BK.out))
  all_goals go_ret
  all_goals refine ⟨ret_bool ?_, HB.out.more (by omega) HBB.out, hk.out⟩
  · rename_i h
    first | (rw [h]; simp) | simp [h]
  · rename_i h
    simp [h]

end Go.Proofs.Ytfmlamnkpoloaaa.Q

/- Both tables tell the same, whatever is done. -/
namespace Go.Proofs.Ytfmlamnkpoloaaa.Q
open Go.RowKit Go.Proofs.YtfmlamnkpoloaaaW.PrintWords Go.Proofs.YtfmlamnkpoloaaaW.PrintLast Go.Proofs.YtfmlamnkpoloaaaW.PrintMore
set_option linter.unusedVariables false
set_option linter.unusedSimpArgs false

structure S28 where
  f0 : Int
  f1 : Int
  f2 : Int
  f3 : Int
def z28 : S28 := ⟨(0 : Int), (0 : Int), (0 : Int), (0 : Int)⟩
def k28 : Kd S28 := Kd.iso (Kd.pair (Kd.int .i64) (Kd.pair (Kd.int .i64) (Kd.pair (Kd.int .i64) (Kd.int .i64)))) (fun x : S28 => (x.f0, (x.f1, (x.f2, x.f3))))
theorem k28_open {w : World} {x : S28} {cs : List Value} (h : k28.K w x cs) : cs = [.int .i64 x.f0, .int .i64 x.f1, .int .i64 x.f2, .int .i64 x.f3] := by
  obtain ⟨c1, c2, rfl, h1, c3, c4, rfl, h2, c5, c6, rfl, h3, h4⟩ := h
  obtain rfl := h1
  obtain rfl := h2
  obtain rfl := h3
  obtain rfl := h4
  rfl
/-- Numbers of Go's own. -/
def Wf (a : S28) : Prop := (Lit.int .i64 a.f0).wf = true ∧ (Lit.int .i64 a.f1).wf = true ∧ (Lit.int .i64 a.f2).wf = true ∧ (Lit.int .i64 a.f3).wf = true
theorem wf_in {n : Int} (h : (Lit.int .i64 n).wf = true) : -9223372036854775808 ≤ n ∧ n ≤ 9223372036854775807 := by
  simp only [Lit.wf, Bool.and_eq_true, decide_eq_true_eq] at h
  have e1 : IntKind.i64.min = -9223372036854775808 := rfl
  have e2 : IntKind.i64.max = 9223372036854775807 := rfl
  rw [e1, e2] at h
  exact h
def tDo (T : Tb) (X : Rb) (kd cl sq co : Int) : Tb :=
  if kd = 0 ∨ kd = 1 then (dPut T cl sq co).2 else if kd = 2 ∨ kd = 3 then (dPut T cl (dNext T cl) co).2 else if kd = 4 then (dGot T cl sq).2 else if kd = 5 then (if rNext X cl = 0 then T else (dGot T cl (rNext X cl - 1)).2) else T
def xDo (X : Rb) (kd cl sq co : Int) : Rb :=
  if kd = 0 ∨ kd = 1 then (rPut X cl sq co).2 else if kd = 2 ∨ kd = 3 then (rPut X cl (rNext X cl) co).2 else if kd = 4 then (rGets X cl sq).2 else if kd = 5 then (if rNext X cl = 0 then X else (rGets X cl (rNext X cl - 1)).2) else X
def bDo (T : Tb) (X : Rb) (kd cl sq co : Int) : Bool :=
  if kd = 0 ∨ kd = 1 then (dPut T cl sq co).1 == (rPut X cl sq co).1 else if kd = 2 ∨ kd = 3 then (dPut T cl (dNext T cl) co).1 == (rPut X cl (rNext X cl) co).1 else if kd = 4 then (dGot T cl sq).1 == (rGets X cl sq).1
  else if kd = 5 then (if rNext X cl = 0 then dNext T cl == 0 else (dGot T cl (rNext X cl - 1)).1 == (rGets X cl (rNext X cl - 1)).1) else (dCode T cl sq).1 == (rCode X cl sq).1 && (dCode T cl sq).2 == (rCode X cl sq).2
theorem do_calls (ok : Nat → Prop) (N B t x xl : Nat) (T : Tb) (X : Rb) (kd cl sq co : Int) (w : World) (hB : Both ok N B w t x xl T X) (hbb : B + 2 ≤ 100000) (hs : -9223372036854775808 ≤ sq ∧ sq ≤ 9223372036854775807) :
    Calls Try.prog 16 #[.pointer (some ⟨t, 0, none⟩), .pointer (some ⟨x, 0, none⟩), .agg #[.int .i64 kd, .int .i64 cl, .int .i64 sq, .int .i64 co]] w fun e w' => e = .returned (.bool (bDo T X kd cl sq co)) ∧ Both ok N (B + 2) w' t x xl (tDo T X kd cl sq co) (xDo X kd cl sq co) ∧ Chg (fun k => k = t ∨ k = xl) w w' := by
  unfold bDo tDo xDo
  by_cases h1 : kd = 0 ∨ kd = 1
  · rw [if_pos h1, if_pos h1, if_pos h1]
    exact do_put ok N B t x xl T X kd cl sq co w hB hbb hs h1
  · rw [if_neg h1, if_neg h1, if_neg h1]
    by_cases h2 : kd = 2 ∨ kd = 3
    · rw [if_pos h2, if_pos h2, if_pos h2]
      exact do_next ok N B t x xl T X kd cl sq co w hB hbb hs h2
    · rw [if_neg h2, if_neg h2, if_neg h2]
      by_cases h4 : kd = 4
      · rw [if_pos h4, if_pos h4, if_pos h4]
        exact do_got ok N B t x xl T X kd cl sq co w hB hbb hs h4
      · rw [if_neg h4, if_neg h4, if_neg h4]
        by_cases h5 : kd = 5
        · rw [if_pos h5, if_pos h5, if_pos h5]
          by_cases h0 : rNext X cl = 0
          · rw [if_pos h0, if_pos h0, if_pos h0]
            exact do_all0 ok N B t x xl T X kd cl sq co w hB hbb hs h5 h0
          · rw [if_neg h0, if_neg h0, if_neg h0]
            refine do_all ok N B t x xl T X kd cl sq co w hB hbb hs h5 (rNext X cl) rfl ?_ ?_
            all_goals
              unfold rNext rnextOf at h0 ⊢
              split
              · rename_i hn
                have h1 := hB.rfine cl.toNat (by unfold isC at hn; omega)
                have h2 := hB.room
                omega
              · rename_i hn
                rw [if_neg hn] at h0
                exact absurd rfl h0
        · rw [if_neg h5, if_neg h5, if_neg h5]
          exact do_code ok N B t x xl T X kd cl sq co w hB hbb hs ⟨by omega, by omega, by omega, by omega, h4, h5⟩

/-- What both tell is the same. -/
def Rel (T : Tb) (X : Rb) : Prop := ∀ m, m < 6 → (T m).got = (X m).got ∧ (T m).codes = (X m).codes.drop ((X m).got - (X m).ahead).toNat ∧ 0 ≤ (X m).ahead ∧ (X m).ahead ≤ (X m).got ∧ (X m).got ≤ (X m).ahead + (X m).codes.length
theorem rel0 : Rel T0 X0 := fun m _ => ⟨rfl, rfl, Int.le_refl 0, Int.le_refl 0, Int.le_refl 0⟩
theorem isC_lt {n : Int} (h : isC n) : n.toNat < 6 := by unfold isC at h; omega
theorem Rel.len {T : Tb} {X : Rb} (h : Rel T X) {m : Nat} (hm : m < 6) : ((T m).codes.length : Int) = (X m).ahead + (X m).codes.length - (X m).got := by
  obtain ⟨h1, h2, h3, h4, h5⟩ := h m hm
  rw [h2, List.length_drop]
  omega
theorem Rel.nextOf {T : Tb} {X : Rb} (h : Rel T X) {m : Nat} (hm : m < 6) : nextOf (T m) = rnextOf (X m) := by
  have := h.len hm
  have := (h m hm).1
  unfold Q.nextOf rnextOf
  omega
theorem Rel.next {T : Tb} {X : Rb} (h : Rel T X) (n : Int) : dNext T n = rNext X n := by
  unfold dNext rNext
  by_cases hn : isC n
  · rw [if_pos hn, if_pos hn, h.nextOf (isC_lt hn)]
  · rw [if_neg hn, if_neg hn]
theorem Rel.upd {T : Tb} {X : Rb} (h : Rel T X) (n : Nat) (c : Cl) (r : Rc) (hc : c.got = r.got ∧ c.codes = r.codes.drop (r.got - r.ahead).toNat ∧ 0 ≤ r.ahead ∧ r.ahead ≤ r.got ∧ r.got ≤ r.ahead + r.codes.length) : Rel (T.upd n c) (X.upd n r) := by
  intro m hm
  unfold Tb.upd Rb.upd
  by_cases e : m = n
  · rw [if_pos e, if_pos e]; exact hc
  · rw [if_neg e, if_neg e]; exact h m hm
theorem rel_put {T : Tb} {X : Rb} (h : Rel T X) (n seq code : Int) : (dPut T n seq code).1 = (rPut X n seq code).1 ∧ Rel (dPut T n seq code).2 (rPut X n seq code).2 := by
  unfold dPut rPut
  by_cases hn : isC n
  · rw [if_pos hn, if_pos hn]
    have hm := isC_lt hn
    have hN := h.nextOf hm
    have hL := h.len hm
    obtain ⟨h1, h2, h3, h4, h5⟩ := h _ hm
    by_cases c1 : code < 0 ∨ 63 < code
    · rw [if_pos c1, if_pos c1]; exact ⟨rfl, h⟩
    · rw [if_neg c1, if_neg c1, hN]
      by_cases c2 : 1 ≤ seq ∧ seq < rnextOf (X n.toNat)
      · rw [if_pos c2, if_pos (show 0 < seq ∧ seq < rnextOf (X n.toNat) by omega)]; exact ⟨rfl, h⟩
      · rw [if_neg c2, if_neg (show ¬ (0 < seq ∧ seq < rnextOf (X n.toNat)) by omega)]
        by_cases c3 : seq ≠ rnextOf (X n.toNat)
        · rw [if_pos c3, if_pos c3]; exact ⟨rfl, h⟩
        · rw [if_neg c3, if_neg c3]
          have c3 : seq = rnextOf (X n.toNat) := by omega
          by_cases c4 : 32 ≤ ((T n.toNat).codes.length : Int)
          · rw [if_pos c4, if_pos (show 32 ≤ seq - 1 - (X n.toNat).got by unfold rnextOf at c3; omega)]; exact ⟨rfl, h⟩
          · rw [if_neg c4, if_neg (show ¬ 32 ≤ seq - 1 - (X n.toNat).got by unfold rnextOf at c3; omega)]
            refine ⟨rfl, h.upd _ _ _ ⟨h1, ?_, h3, h4, by simp; omega⟩⟩
            dsimp only
            rw [h2, List.drop_append_of_le_length (by omega)]
  · rw [if_neg hn, if_neg hn]; exact ⟨rfl, h⟩
theorem rel_got {T : Tb} {X : Rb} (h : Rel T X) (n upto : Int) : (dGot T n upto).1 = (rGets X n upto).1 ∧ Rel (dGot T n upto).2 (rGets X n upto).2 := by
  unfold dGot rGets
  by_cases hn : isC n
  · rw [if_pos hn, if_pos hn]
    have hm := isC_lt hn
    have hN := h.nextOf hm
    have hL := h.len hm
    obtain ⟨h1, h2, h3, h4, h5⟩ := h _ hm
    rw [hN]
    by_cases c1 : upto < 0 ∨ rnextOf (X n.toNat) ≤ upto
    · rw [if_pos c1, if_pos c1]; exact ⟨rfl, h⟩
    · rw [if_neg c1, if_neg c1]
      have c1' : 0 ≤ upto ∧ upto < rnextOf (X n.toNat) := by omega
      unfold rnextOf at c1'
      by_cases c2 : (T n.toNat).got < upto
      · rw [if_pos c2, if_pos (show (X n.toNat).got < upto by omega)]
        refine ⟨rfl, h.upd _ _ _ ⟨rfl, ?_, h3, by dsimp only; omega, by dsimp only; omega⟩⟩
        dsimp only
        rw [h2, List.drop_drop]
        congr 1
        omega
      · rw [if_neg c2, if_neg (show ¬ (X n.toNat).got < upto by omega)]
        refine ⟨rfl, ?_⟩
        have e : X.upd n.toNat ⟨(X n.toNat).codes, (X n.toNat).ahead, (X n.toNat).got⟩ = X := by
          funext m
          unfold Rb.upd
          by_cases e : m = n.toNat
          · rw [if_pos e, e]
          · rw [if_neg e]
        dsimp only
        rw [e]
        exact h
  · rw [if_neg hn, if_neg hn]; exact ⟨rfl, h⟩
theorem rd_drop (l : List Int) (k : Nat) (i : Int) (h : 0 ≤ i) : rd (l.drop k) i = rd l (i + k) := by
  unfold rd
  have e : (i + k).toNat = k + i.toNat := by omega
  rw [e]
  simp
theorem rel_code {T : Tb} {X : Rb} (h : Rel T X) (n seq : Int) : dCode T n seq = rCode X n seq := by
  unfold dCode rCode
  by_cases hn : isC n
  · rw [if_pos hn, if_pos hn]
    have hm := isC_lt hn
    have hN := h.nextOf hm
    obtain ⟨h1, h2, h3, h4, h5⟩ := h _ hm
    rw [hN, h1]
    by_cases c1 : seq < 1 ∨ rnextOf (X n.toNat) ≤ seq
    · rw [if_pos c1, if_pos c1]
    · rw [if_neg c1, if_neg c1]
      by_cases c2 : seq ≤ (X n.toNat).got
      · rw [if_pos c2, if_pos c2]
      · rw [if_neg c2, if_neg c2, h2, rd_drop _ _ _ (by omega)]
        congr 2
        omega
  · rw [if_neg hn, if_neg hn]
theorem rel_do {T : Tb} {X : Rb} (h : Rel T X) (kd cl sq co : Int) : bDo T X kd cl sq co = true ∧ Rel (tDo T X kd cl sq co) (xDo X kd cl sq co) := by
  have hN := h.next cl
  unfold bDo tDo xDo
  split
  · have := rel_put h cl sq co
    exact ⟨by simpa using this.1, this.2⟩
  · split
    · rw [hN]
      have := rel_put h cl (rNext X cl) co
      exact ⟨by simpa using this.1, this.2⟩
    · split
      · have := rel_got h cl sq
        exact ⟨by simpa using this.1, this.2⟩
      · split
        · split
          · rename_i h0
            exact ⟨by rw [hN, h0]; rfl, h⟩
          · have := rel_got h cl (rNext X cl - 1)
            exact ⟨by simpa using this.1, this.2⟩
        · have := rel_code h cl sq
          exact ⟨by rw [this]; simp, h⟩
def act (S : Tb × Rb) (a : S28) : Tb × Rb := (tDo S.1 S.2 a.f0 a.f1 a.f2 a.f3, xDo S.2 a.f0 a.f1 a.f2 a.f3)
def runs (l : List S28) : Tb × Rb := l.foldl act (T0, X0)
theorem rel_runs (l : List S28) : Rel (runs l).1 (runs l).2 := by
  have : ∀ (l : List S28) (S : Tb × Rb), Rel S.1 S.2 → Rel (l.foldl act S).1 (l.foldl act S).2 := by
    intro l
    induction l with
    | nil => intro S h; exact h
    | cons a l ih => intro S h; exact ih _ (rel_do h a.f0 a.f1 a.f2 a.f3).2
  exact this l _ rel0
theorem runs_snoc (l : List S28) (i : Nat) (h : i < l.length) : runs (l.take (i + 1)) = act (runs (l.take i)) l[i] := by
  rw [List.take_succ_eq_append_getElem h]
  unfold runs
  rw [List.foldl_append]
  rfl

end Go.Proofs.Ytfmlamnkpoloaaa.Q

/- The contract of made: both tables behind some calls. -/
namespace Go.Proofs.Ytfmlamnkpoloaaa.Q
open Go.RowKit Go.Proofs.YtfmlamnkpoloaaaW.PrintWords Go.Proofs.YtfmlamnkpoloaaaW.PrintLast Go.Proofs.YtfmlamnkpoloaaaW.PrintMore
set_option linter.unusedVariables false
set_option linter.unusedSimpArgs false

/-- The three blocks of both tables are not meant. -/
def okOf (B : Nat) (k : Nat) : Prop := k ≠ B ∧ k ≠ B + 1 ∧ k ≠ B + 2
theorem act_cells {w : World} {A : Option Addr} {l : List S28} (h : Kd.C k28 w A l.length l) (i : Nat) (hi : i < l.length) :
    ∃ ad, A = some ad ∧ w.cell? (ad.add (i * 4)) = some (.int .i64 l[i].f0) ∧ w.cell? ⟨(ad.add (i * 4)).block, (ad.add (i * 4)).off + 1, none⟩ = some (.int .i64 l[i].f1) ∧ w.cell? ⟨(ad.add (i * 4)).block, (ad.add (i * 4)).off + 2, none⟩ = some (.int .i64 l[i].f2) ∧ w.cell? ⟨(ad.add (i * 4)).block, (ad.add (i * 4)).off + 3, none⟩ = some (.int .i64 l[i].f3) := by
  obtain ⟨ad, c, e, _, hK, hc0⟩ := Kd.C_get h z28 (i : Int) (by omega) (by omega)
  have hc : ∀ j u, c[j]? = some u → w.cell? (ad.add (i * 4 + j)) = some u := by intro j u hu; have := hc0 j u hu; rw [Int.toNat_natCast] at this; exact this
  obtain rfl := k28_open hK
  have e2 : l.getD ((i : Int)).toNat z28 = l[i] := by simp [hi]
  rw [e2] at hc
  exact ⟨ad, e, hc 0 _ rfl, by rw [← add_field _ _ 1 (by omega)]; exact hc 1 _ rfl, by rw [← add_field _ _ 2 (by omega)]; exact hc 2 _ rfl, by rw [← add_field _ _ 3 (by omega)]; exact hc 3 _ rfl⟩
theorem both_new {w w1 w2 : World} (h1 : ∀ ok, TabAt ok w1 w.heap.size T0) (b1 : Below w.heap.size w w1) (e1 : w1.heap.size = w.heap.size + 1) (h2 : ∀ ok, RefAt ok w2 (w1.heap.size + 1) w1.heap.size X0) (b2 : Below w1.heap.size w1 w2) (e2 : w2.heap.size = w1.heap.size + 2) : Both (okOf w.heap.size) (w.heap.size + 3) 0 w2 w.heap.size (w.heap.size + 2) (w.heap.size + 1) T0 X0 := by
  have h3 := h2 (okOf w.heap.size)
  rw [e1] at h3
  exact ⟨(h1 (okOf w.heap.size)).chg (Chg.of_below b2 (fun _ => False)) (fun h => h) (fun _ _ h => h), h3, fun m _ => ⟨Int.le_refl 0, Int.le_refl 0⟩, fun m _ => ⟨Int.le_refl 0, Int.le_refl 0, Int.le_refl 0, Int.le_refl 0⟩, by decide, fun k h => h.1, fun k h => h.2.2, fun k h => h.2.1, by omega, by omega, by omega, fun k h => ⟨by omega, by omega, by omega⟩, by omega⟩
set_option maxHeartbeats 4000000 in
set_option maxRecDepth 100000 in
theorem made_calls (A : Option Addr) (c : Nat) (l : List S28) (w : World) (hG : ∀ a ∈ l, Wf a) (hm : l.length ≤ 9223372036854775807) (hC : k28.C w A l.length l) (hle : l.length ≤ c) :
    Calls Try.prog 15 #[.slice A l.length c] w fun e w' => e = .returned (.tuple #[.pointer (some ⟨w.heap.size, 0, none⟩), .pointer (some ⟨w.heap.size + 2, 0, none⟩), .bool true]) ∧ Both (okOf w.heap.size) (w.heap.size + 3) 240 w' w.heap.size (w.heap.size + 2) (w.heap.size + 1) (runs (l.take 120)).1 (runs (l.take 120)).2 ∧ Below w.heap.size w w' := by
  have HG := Aside0.mk hG
  have HC := Aside0.mk hC
  clear hG hC
  go_enter Try.func15, Try.ntmps15
  go_wp2_with (first | (go_at_call 8; refine (new_calls _).mono ?_; rintro e w1 ⟨rfl, h1, b1, e1⟩; have H1 := Aside0.mk h1; have B1 := Aside0.mk b1; have E1 := Aside0.mk e1; clear h1 b1 e1) | (go_at_call 17; refine (rnew_calls _).mono ?_; rintro e w2 ⟨rfl, h2, b2, e2⟩; have HB := Aside0.mk (both_new H1.out B1.out E1.out h2 b2 e2); have HL := Aside0.mk (Below.trans B1.out (b2.mono B1.out.size)); rw [E1.out]; clear h2 b2 e2 H1 B1 E1))
  go_loopg [7] 120 (fun kq vi wr => ∃ i : Nat, vi = .int .i64 i ∧ Aside0 (i + kq = 120) ∧ Aside0 (i ≤ l.length) ∧ Aside0 (Both (okOf w.heap.size) (w.heap.size + 3) (2 * i) wr w.heap.size (w.heap.size + 2) (w.heap.size + 1) (runs (l.take i)).1 (runs (l.take i)).2) ∧ Aside0 (Below w.heap.size w wr))
  case atStart => exact ⟨0, rfl, ⟨by omega⟩, ⟨by omega⟩, HB, HL⟩
  case round =>
    clear HB HL
    obtain ⟨i, rfl, HK, HI, HB, HL⟩ := hrel
    have hi120 : i ≤ 120 := by have := HK.out; omega
    by_cases hlt : i < l.length
    · by_cases h120 : i < 120
      · obtain ⟨ad, rfl, y0, y1, y2, y3⟩ := act_cells (Kd.C_below HC.out HL.out) i hlt
        have HR := Aside0.mk (runs_snoc l i hlt)
        have HW := Aside0.mk (wf_in (HG.out _ (List.getElem_mem hlt)).2.2.1)
        have HD := Aside0.mk (rel_do (rel_runs (l.take i)) l[i].f0 l[i].f1 l[i].f2 l[i].f3).1
        go_wp2_with (first | (go_at_call 16; refine (do_calls (okOf w.heap.size) (w.heap.size + 3) (2 * i) w.heap.size (w.heap.size + 2) (w.heap.size + 1) (runs (l.take i)).1 (runs (l.take i)).2 l[i].f0 l[i].f1 l[i].f2 l[i].f3 _ HB.out (by omega) HW.out).mono ?_; rintro e w3 ⟨rfl, hb3, hc3⟩; rw [HD.out]; have HB3 := Aside0.mk hb3; have HL3 := Aside0.mk (hc3.below HL.out HL.out.size (fun k hk => by omega)); clear hb3 hc3))
        go_roundg (120 - (i + 1))
        case measure => have := HK.out; omega
        case rel => exact ⟨i + 1, by go_num, ⟨by omega⟩, ⟨by omega⟩, ⟨by rw [HR.out]; exact HB3.out⟩, HL3⟩
      · obtain rfl : i = 120 := by omega
        go_wp2
        go_ret3
        exact ⟨rfl, HB.out, HL.out⟩
    · go_wp2
      go_ret3
      refine ⟨rfl, ?_, HL.out⟩
      have e : l.take i = l.take 120 := by rw [List.take_of_length_le (by omega), List.take_of_length_le (by omega)]
      rw [← e]
      exact HB.out.more (by omega) (by decide)

end Go.Proofs.Ytfmlamnkpoloaaa.Q

/- The contracts of kept and Kept. -/
namespace Go.Proofs.Ytfmlamnkpoloaaa.Q
open Go.RowKit Go.Proofs.YtfmlamnkpoloaaaW.PrintWords Go.Proofs.YtfmlamnkpoloaaaW.PrintLast Go.Proofs.YtfmlamnkpoloaaaW.PrintMore
set_option linter.unusedVariables false
set_option linter.unusedSimpArgs false

/-- The codes behind a number, with their numbers. -/
def kv : Int → List Int → List S58
  | _, [] => []
  | g, c :: r => ⟨g + 1, c⟩ :: kv (g + 1) r
theorem kv_length : ∀ (g : Int) (l : List Int), (kv g l).length = l.length
  | _, [] => rfl
  | g, _ :: r => by simp [kv, kv_length (g + 1) r]
theorem kv_append : ∀ (g : Int) (l : List Int) (x : Int), kv g (l ++ [x]) = kv g l ++ [⟨g + 1 + l.length, x⟩]
  | g, [], x => by simp [kv]
  | g, c :: r, x => by
    rw [List.cons_append, kv, kv, kv_append (g + 1) r x, List.cons_append]
    have e : g + 1 + 1 + (r.length : Int) = g + 1 + ((c :: r).length : Int) := by simp; omega
    rw [e]
set_option maxHeartbeats 4000000 in
set_option maxRecDepth 100000 in
theorem kept_calls (ok : Nat → Prop) (t o : Nat) (g : Int) (A : Option Addr) (c : Nat) (l : List Int) (w : World) (h0 : 0 ≤ g) (h1 : g + l.length ≤ 1152921504606846976) (h2 : l.length ≤ 1099511627776) (hg : w.cell? ⟨t, o, none⟩ = some (.int .i64 g)) (hs : w.cell? ⟨t, o + 1, none⟩ = some (.slice A l.length c)) (hR : RowI w ok (.slice A l.length c) l) :
    Calls Try.prog 31 #[.pointer (some ⟨t, o, none⟩)] w fun e w' => ∃ v, e = .returned v ∧ Kd.R k58 58 w' w.heap.size (fun _ => True) v (kv g l) ∧ Below w.heap.size w w' := by
  have HR := Aside0.mk hR
  have HG := Aside0.mk hg
  clear hR
  have ht : t < w.heap.size := World.block_lt_of_cell? w _ hg
  go_enter Try.func31, Try.ntmps31
  go_wp2
  clear hg hs
  go_loopg [3, 11] l.length (fun kq vo vi wr => ∃ i : Nat, vi = .int .i64 i ∧ Aside0 (i + kq = l.length) ∧ Aside0 (Kd.R k58 58 wr w.heap.size (fun _ => True) vo (kv g (l.take i))) ∧ Aside0 (Below w.heap.size w wr))
  case atStart => exact ⟨0, rfl, ⟨by omega⟩, ⟨by simpa [kv] using Kd.R_nil _ _ _ _ _⟩, ⟨Below.refl _ _⟩⟩
  case round =>
    obtain ⟨i, rfl, HK, HO, HB⟩ := hrel
    have hil : i ≤ l.length := by have := HK.out; omega
    by_cases hlt : i < l.length
    · obtain ⟨ad, rfl, hcell⟩ := (HR.out.chg (Chg.of_below HB.out (fun _ => False)) (fun _ _ h => h)).cell (i : Int) (by omega) (by omega)
      rw [Int.toNat_natCast] at hcell
      obtain ⟨x, hx⟩ : ∃ x, x = rd l (i : Int) := ⟨_, rfl⟩
      rw [← hx] at hcell
      have HX := Aside0.mk (show l.take (i + 1) = l.take i ++ [x] by rw [List.take_succ_eq_append_getElem hlt, hx]; simp [rd, hlt])
      have hgr := (HB.out.cell (p := ⟨t, o, none⟩) ht).trans HG.out
      clear hx
      have b1 : g + 1 + (i : Int) ≤ 1152921504606846976 := by omega
      have HL : Aside0 ((l.take i).length = i) := ⟨by simp; omega⟩
      go_wp2_with (first | ((with_reducible refine gate_builtin (b := .append) (xs := #[.tmp 16, .tmp 26]) rfl ?_); at_builtin; refine Kd.R_append k58 w.heap.size rfl (.tmp 16) (.tmp 26) 43 58 (.agg #[(.int .i64 0), (.int .i64 0)]) 16 rfl Try.underlying43 info58 rfl (by decide) (by decide) _ (kv g (l.take i)) (⟨g + 1 + (i : Int), x⟩ : S58) [.int .i64 (g + 1 + (i : Int)), .int .i64 x] (fun _ => True) (fun _ => False) rfl rfl (k58_mkM _ _ _ (⟨g + 1 + (i : Int), x⟩ : S58)) (fun _ hk => hk.elim) (fun _ _ => trivial) HO.out HB.out HB.out.size (by rw [kv_length, HL.out]; omega) ?_; intro v3 w3 ho3 hb3 hg3 hat3; have HO3 := Aside0.mk ho3; have HB3 := Aside0.mk hb3; clear ho3 hb3 hg3 hat3))
      go_roundg (l.length - (i + 1))
      case measure => have := HK.out; omega
      case rel => exact ⟨i + 1, by go_num, ⟨by omega⟩, ⟨by rw [HX.out, kv_append, HL.out]; exact HO3.out⟩, HB3⟩
    · obtain rfl : i = l.length := by omega
      have ho := HO.out
      rw [List.take_length] at ho
      have HO2 := Aside0.mk ho
      clear ho HO
      go_wp2
      go_ret
      exact ⟨_, rfl, HO2.out, HB.out⟩
def dKept (T : Tb) (n : Int) : List S58 := if isC n then kv (T n.toNat).got (T n.toNat).codes else []
set_option maxHeartbeats 1000000 in
theorem Kept_calls (ok : Nat → Prop) (t : Nat) (T : Tb) (n : Int) (w : World) (hT : TabAt ok w t T) (hF : ∀ m, m < 6 → Fine (T m)) :
    Calls Try.prog 20 #[.pointer (some ⟨t, 0, none⟩), .int .i64 n] w fun e w' => ∃ v, e = .returned v ∧ Kd.R k58 58 w' w.heap.size (fun _ => True) v (dKept T n) ∧ Below w.heap.size w w' := by
  by_cases hn : isC n
  · obtain ⟨m, hm, rfl⟩ := isC_nat hn
    obtain ⟨hc0, ⟨A, c, hc1, -, hR⟩, -⟩ := hT.cells hm
    have hf := hF m hm
    have e : dKept T m = kv (T m).got (T m).codes := by rw [dKept, if_pos hn, Int.toNat_natCast]
    rw [e]
    have HK := Aside0.mk (kept_calls ok t (m * 2) (T m).got A c (T m).codes w hf.1 hf.2.1 hf.2.2 hc0 hc1 hR)
    clear e hn hc0 hc1 hR hf hT hF
    go_enter Try.func20, Try.ntmps20
    go_wp2_with (first | (go_at_call 26; refine (find_ok t m hm _).mono ?_; rintro e w' ⟨rfl, rfl⟩) | (go_at_call 31; refine HK.out.mono ?_; rintro e w' ⟨v, rfl, ho, hb⟩; have HO := Aside0.mk ho; have HB := Aside0.mk hb; clear ho hb))
    go_ret
    exact ⟨_, rfl, HO.out, HB.out⟩
  · rw [show dKept T n = [] from if_neg hn]
    have hn := not_isC hn
    clear hT hF
    go_enter Try.func20, Try.ntmps20
    go_wp2_with (go_at_call 26; refine (find_bad t n hn _).mono ?_; rintro e w' ⟨rfl, rfl⟩)
    go_ret
    exact ⟨_, rfl, Kd.R_nil _ _ _ _ _, Below.refl _ _⟩

end Go.Proofs.Ytfmlamnkpoloaaa.Q
