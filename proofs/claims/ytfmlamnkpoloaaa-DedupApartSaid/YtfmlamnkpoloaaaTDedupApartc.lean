/- Texts of this session laid together (merge.py): YtfmlamnkpoloaaaGKept, YtfmlamnkpoloaaaQeq58, YtfmlamnkpoloaaaQf19, YtfmlamnkpoloaaaGApart0, YtfmlamnkpoloaaaFAwake, YtfmlamnkpoloaaaGApart, YtfmlamnkpoloaaaHOpen. -/
import Derived.ChangeArms
import Derived.Deep.Slices
import Derived.SizedLaws
import Derived.Test.YtfmlamnkpoloaaaTDedupApartb
/- The reference's Kept. -/
namespace Go.Proofs.Ytfmlamnkpoloaaa.Q
open Go.RowKit Go.Proofs.YtfmlamnkpoloaaaW.PrintWords Go.Proofs.YtfmlamnkpoloaaaW.PrintLast Go.Proofs.YtfmlamnkpoloaaaW.PrintMore
set_option linter.unusedVariables false
set_option linter.unusedSimpArgs false

def rKept (X : Rb) (n : Int) : List S58 := if isC n then kv (X n.toNat).got ((X n.toNat).codes.drop ((X n.toNat).got - (X n.toNat).ahead).toNat) else []
theorem rel_kept {T : Tb} {X : Rb} (h : Rel T X) (n : Int) : dKept T n = rKept X n := by
  unfold dKept rKept
  by_cases hn : isC n
  · rw [if_pos hn, if_pos hn, (h _ (isC_lt hn)).1, (h _ (isC_lt hn)).2.1]
  · rw [if_neg hn, if_neg hn]
set_option maxHeartbeats 4000000 in
set_option maxRecDepth 100000 in
theorem rKept_calls (ok : Nat → Prop) (x xl : Nat) (X : Rb) (n : Int) (w : World) (hX : RefAt ok w x xl X) (hF : ∀ m, m < 6 → RFine (X m)) :
    Calls Try.prog 21 #[.pointer (some ⟨x, 0, none⟩), .int .i64 n] w fun e w' => ∃ v, e = .returned v ∧ Kd.R k58 58 w' w.heap.size (fun _ => True) v (rKept X n) ∧ Below w.heap.size w w' := by
  by_cases hn : isC n
  · obtain ⟨m, hm, rfl⟩ := isC_nat hn
    obtain ⟨hc0, ⟨A, c, hc1, hlc, hR⟩, hc2, hc3, -⟩ := hX.cells hm
    have hlx := hX.lt
    have hx1 := hlx.1
    have hx2 := hlx.2
    have hf := hF m hm
    have e : rKept X m = kv (X m).got ((X m).codes.drop ((X m).got - (X m).ahead).toNat) := by rw [rKept, if_pos hn, Int.toNat_natCast]
    rw [e]
    have eN : rNext X m = (X m).ahead + ((X m).codes.length : Int) + 1 := by rw [rNext, if_pos hn, rnextOf, Int.toNat_natCast]
    have HN := fun w' (h : RefAt ok w' x xl X) => rNext_calls ok x xl X m w' h hF
    rw [eN] at HN
    have HNX := Aside0.mk HN
    have HX := Aside0.mk hX
    have HR := Aside0.mk hR
    have q1 : 0 ≤ (X m).ahead := hf.1
    have q2 := hf.2.1
    have q3 := hf.2.2.1
    have q4 := hf.2.2.2.1
    have q5 := hf.2.2.2.2
    clear hX hF HN eN hR hf hlx e hn
    have b3 : (0 : Int) ≤ (m : Int) := by omega
    have b4 : (m : Int) < 6 := by omega
    generalize (X m).got = g at *
    generalize (X m).ahead = h at *
    generalize (X m).codes = l at *
    obtain ⟨k, hk⟩ : ∃ k : Nat, g - h = k := ⟨(g - h).toNat, by omega⟩
    rw [hk, Int.toNat_natCast]
    have hdl : (l.drop k).length = l.length - k := by simp
    have HC0 := Aside0.mk hc0
    have HC1 := Aside0.mk hc1
    have HC2 := Aside0.mk hc2
    have HDL := Aside0.mk hdl
    clear hdl
    go_enter Try.func21, Try.ntmps21
    go_wp2_with (go_at_call 10; refine (is_yes m hm _).mono ?_; rintro e w' ⟨rfl, rfl⟩)
    clear hc0 hc1 hc2 hc3
    go_loopg [5, 6] (l.length - k) (fun kq vo vi wr => ∃ i : Nat, vi = .int .i64 (g + 1 + (i : Int)) ∧ Aside0 (i + kq = l.length - k) ∧ Aside0 (Kd.R k58 58 wr w.heap.size (fun _ => True) vo (kv g ((l.drop k).take i))) ∧ Aside0 (Below w.heap.size w wr))
    case atStart => exact ⟨0, by simp, ⟨by omega⟩, ⟨by simpa [kv] using Kd.R_nil _ _ _ _ _⟩, ⟨Below.refl _ _⟩⟩
    case round =>
      obtain ⟨i, rfl, HK, HO, HB⟩ := hrel
      have hil : i ≤ l.length - k := by have := HK.out; omega
      by_cases hlt : i < l.length - k
      · obtain ⟨j, hj⟩ : ∃ j, j = k + i := ⟨_, rfl⟩
        obtain ⟨ad, rfl, hcell⟩ := (HR.out.chg (Chg.of_below HB.out (fun _ => False)) (fun _ _ h => h)).cell (j : Int) (by omega) (by omega)
        rw [Int.toNat_natCast] at hcell
        obtain ⟨y, hy⟩ : ∃ y, y = rd l (j : Int) := ⟨_, rfl⟩
        rw [← hy] at hcell
        have HT := Aside0.mk (show (l.drop k).take (i + 1) = (l.drop k).take i ++ [y] by rw [List.take_succ_eq_append_getElem (by rw [HDL.out]; omega), hy]; have e : (j : Int).toNat = k + i := (by omega); simp only [rd, e]; simp [show k + i < l.length by omega])
        have HL : Aside0 (((l.drop k).take i).length = i) := ⟨by rw [List.length_take, HDL.out]; omega⟩
        have g0 := (HB.out.cell (p := ⟨x, 0, none⟩) hx1).trans HC0.out
        have g1 := (HB.out.cell (p := ⟨xl, m * 3, none⟩) hx2).trans HC1.out
        have g2 := (HB.out.cell (p := ⟨xl, m * 3 + 1, none⟩) hx2).trans HC2.out
        clear hy
        have HJ := Aside0.mk hj
        have b1 : g + 1 + (i : Int) ≤ 1152921504606846976 := by omega
        have i1 : (0 : Int) ≤ (j : Int) := by omega
        have i2 : (j : Int) < (l.length : Int) := by omega
        have s1 : IntKind.i64.wrap (g + 1 + (i : Int) - 1) = g + (i : Int) := by rw [IntWalk.i64_in _ (by omega)]; omega
        have s2 : IntKind.i64.wrap (g + (i : Int) - h) = (j : Int) := by rw [IntWalk.i64_in _ (by omega)]; omega
        have t1 : g + 1 + (i : Int) < h + (l.length : Int) + 1 := by omega
        clear hj
        go_wp2_with (go_at_call 18; refine (HNX.out _ (HX.out.chg (Chg.of_below HB.out (fun _ => False)) (fun h => h) (fun h => h) (fun _ _ h => h))).mono ?_; rintro e w2 ⟨rfl, kk, rfl⟩)
        have l1 : x < wr.heap.size := Nat.lt_of_lt_of_le hx1 HB.out.size
        have l2 : xl < wr.heap.size := Nat.lt_of_lt_of_le hx2 HB.out.size
        have l3 : (ad.add j).block < wr.heap.size := World.block_lt_of_cell? _ _ hcell
        have hal := fun (o : Obj) (p : Addr) (hp : p.block < wr.heap.size) => (below_alloc (Below.refl _ (wr.drewN (kk + 1))) o).cell (p := p) hp
        have h0 := Aside0.mk (pw_below_drewN HB.out kk)
        have h1 := Aside0.mk (Kd.R_drewN HO.out kk)
        clear HB HO
        refine wp_plan [(0, 0, 27), (1, 0, 28), (2, 0, 29), (3, 0, 30), (4, 0, 31), (5, 0, 32), (6, 0, 33), (7, 0, 34), (8, 0, 35), (9, 0, 36), (10, 0, 37), (11, 0, 38), (12, 0, 39), (13, 0, 40), (14, 0, 41), (15, 0, 42), (16, 0, 43), (17, 0, 44), (18, 0, 45), (19, 0, 46), (20, 0, 47), (21, 0, 48), (22, 0, 49), (23, 0, 50), (24, 2, 51), (25, 5, 52), (26, 1, 5)] [25] (fun W => W.cell? ⟨x, 0, none⟩ = some (.slice (some ⟨xl, 0, none⟩) 6 6) ∧ W.cell? ⟨xl, m * 3, none⟩ = some (.slice (some ad) l.length c) ∧ W.cell? ⟨xl, m * 3 + 1, none⟩ = some (.int .i64 h) ∧ W.cell? (ad.add j) = some (.int .i64 y)) (by kernel_rfl) rfl (by kernel_rfl) (fun _ t _ _ _ h => by cases t <;> exact h) ⟨g0, g1, g2, hcell⟩ (fun hS => ?_)
        repeat (refine RP.take (v := ?_) (a' := ?_) rfl rfl (by assumption) (Or.inl ⟨by rfl, ?_⟩) ?_ ?_; rotate_left; (focus (rintro w' ⟨hS0, hS1, hS2, hS3⟩; go_simp; with_reducible rfl)); rotate_left; (focus (simp only [Act.put, List.setIfInBounds_toArray, List.set_cons_zero, List.set_cons_succ, i64_w, i32_w]; rfl)))
        refine RP.one rfl rfl (fun K hK => ?_)
        go_simp
        refine hK.out _ _ ⟨(hal _ _ l1).trans g0, (hal _ _ l2).trans g1, (hal _ _ l2).trans g2, (hal _ _ l3).trans hcell⟩ (fun hS => ?_)
        clear hK K
        refine RP.last1 rfl rfl (fun K hK => ?_)
        refine Kd.R_append_step k58 w.heap.size (by rfl) (.tmp 27) (.tmp 51) 43 58 (.agg #[(.int .i64 0), (.int .i64 0)]) 16 (by rfl) Try.underlying43 info58 rfl (by decide) (by decide) _ (kv g ((l.drop k).take i)) (⟨g + 1 + (i : Int), y⟩ : S58) [.int .i64 (g + 1 + (i : Int)), .int .i64 y] (fun _ => True) (fun _ => False) (by rfl) (by rfl) (k58_mkM _ _ _ (⟨g + 1 + (i : Int), y⟩ : S58)) (fun _ hk => hk.elim) (fun _ _ => trivial) (Kd.R_drewN h1.out 1) (pw_below_drewN h0.out 1) h0.out.size (by rw [kv_length, HL.out]; omega) ?_
        intro v3 w3 ho3 hb3 hg3 hat3
        have HO3 := Aside0.mk ho3
        have HB3 := Aside0.mk hb3
        clear ho3 hb3 hg3 hat3
        refine hK.out _ _ ?_
        clear hK K
        refine RP.norm (a' := ?_) ?_ ?_
        rotate_left
        · show Act.put _ (some 52) _ = _
          simp only [Act.put, List.setIfInBounds_toArray, List.set_cons_zero, List.set_cons_succ, i64_w, i32_w]
          rfl
        repeat (refine RP.pure (v := ?_) (a' := ?_) rfl rfl (Or.inl ⟨by rfl, ?_⟩) ?_ ?_; rotate_left; (focus (intro w'; go_simp; with_reducible rfl)); rotate_left; (focus (simp only [Act.put, List.setIfInBounds_toArray, List.set_cons_zero, List.set_cons_succ, i64_w, i32_w]; rfl)))
        refine RP.nil ?_
        go_wp2
        go_roundg (l.length - k - (i + 1))
        case measure => have := HK.out; omega
        case rel => exact ⟨i + 1, by go_num, ⟨by omega⟩, ⟨by rw [HT.out, kv_append, HL.out]; exact HO3.out⟩, HB3⟩
      · obtain rfl : i = l.length - k := by omega
        have t1 : ¬ g + 1 + ((l.length - k : Nat) : Int) < h + (l.length : Int) + 1 := by omega
        have ho := HO.out
        rw [List.take_of_length_le (by rw [HDL.out]; omega)] at ho
        have HO2 := Aside0.mk ho
        clear ho HO
        go_wp2_with (go_at_call 18; refine (HNX.out _ (HX.out.chg (Chg.of_below HB.out (fun _ => False)) (fun h => h) (fun h => h) (fun _ _ h => h))).mono ?_; rintro e w2 ⟨rfl, kk, rfl⟩)
        go_ret
        exact ⟨_, rfl, Kd.R_drewN HO2.out _, pw_below_drewN HB.out _⟩
  · rw [show rKept X n = [] from if_neg hn]
    have HN := Aside0.mk hn
    clear hX hF hn
    go_enter Try.func21, Try.ntmps21
    go_wp2_with (go_at_call 10; refine (is_no n HN.out _).mono ?_; rintro e w' ⟨rfl, rfl⟩)
    go_ret
    exact ⟨_, rfl, Kd.R_nil _ _ _ _ _, Below.refl _ _⟩

end Go.Proofs.Ytfmlamnkpoloaaa.Q

-- By px.py, a program of this session that drives the kit's printer: laid out of the translation; Lean checks it.
namespace Go.Proofs.Ytfmlamnkpoloaaa.Q
open Go.RowKit Go.Proofs.YtfmlamnkpoloaaaW.PrintWords Go.Proofs.YtfmlamnkpoloaaaW.PrintLast Go.Proofs.YtfmlamnkpoloaaaW.PrintMore
attribute [local go_sem] max2_int min2_int max_two min_two max_three min_three max_four min_four   -- for this text's walks alone
set_option linter.unusedVariables false
set_option linter.unusedSimpArgs false

theorem eqA58 (d : Nat) (w : World) (x0 y0 : Int) (x1 y1 : Int) :
    (Op.equalIn (d + 2) 58 (.agg #[.int .i64 x0, .int .i64 x1]) (.agg #[.int .i64 y0, .int .i64 y1])).run Try.prog w = .ok (x0 == y0 && (x1 == y1)) w := by
  refine eqA_of Try.underlying58 (by kernel_rfl) ?_
  refine eqf_cons (by rfl) (by go_simp; rfl) (by go_simp; rfl) (by go_simp) ?_
  exact eqf_last (by rfl) (by go_simp; rfl) (by go_simp; rfl) (by go_simp)
end Go.Proofs.Ytfmlamnkpoloaaa.Q

-- By px.py, a program of this session that drives the kit's printer: laid out of the translation; Lean checks it.
namespace Go.Proofs.Ytfmlamnkpoloaaa.Q
open Go.RowKit Go.Proofs.YtfmlamnkpoloaaaW.PrintWords Go.Proofs.YtfmlamnkpoloaaaW.PrintLast Go.Proofs.YtfmlamnkpoloaaaW.PrintMore
attribute [local go_sem] max2_int min2_int max_two min_two max_three min_three max_four min_four   -- for this text's walks alone
set_option linter.unusedVariables false
set_option linter.unusedSimpArgs false

attribute [local go_sem high] eqA58
/-! ### surmiseref10_SameVerdicts: function 19 -/
def surmiseref10_SameVerdicts.l0 : Nat → List (S58) → List (S58) → Int → Option (Bool)
  | 0, _, _, _ => none
  | k + 1, x0, x1, x5 => if x5 < (x0.length : Int) then (if 0 ≤ x5 then (if x5 < (x1.length : Int) then (if (!(((rd_T58 x0 x5).f0) == ((rd_T58 x1 x5).f0)) || (!(((rd_T58 x0 x5).f1) == ((rd_T58 x1 x5).f1)))) = true then (some false) else (surmiseref10_SameVerdicts.l0 k x0 x1 (wrap64 (x5 + 1)))) else (none)) else (none)) else (some true)
def surmiseref10_SameVerdicts.f (k : Nat) (l0 : List (S58)) (l1 : List (S58)) : Option (Bool) := if (l0.length : Int) = (l1.length : Int) then (surmiseref10_SameVerdicts.l0 k l0 l1 0) else (some false)
theorem surmiseref10_SameVerdicts.mono_l : ∀ k, (∀ y0 y1 y2, LeO (surmiseref10_SameVerdicts.l0 k y0 y1 y2) (surmiseref10_SameVerdicts.l0 (k + 1) y0 y1 y2))
  | 0 => fun _ _ _ r h => by simp [surmiseref10_SameVerdicts.l0] at h
  | k + 1 => by
    have ih0 := surmiseref10_SameVerdicts.mono_l k
    · intro y0 y1 y2
      unfold surmiseref10_SameVerdicts.l0
      repeat' first
      | (with_reducible exact ih0 _ _ _)
      | (with_reducible exact LeO.refl _)
      | (with_reducible exact LeO.none _)
      | (with_reducible refine LeO.ite ?_ ?_)
      | (with_reducible refine LeO.bind ?_ (fun _ => ?_))
      | exact ih0 _ _ _
      | exact LeO.none _
      | refine LeO.ite ?_ ?_
      | refine LeO.bind ?_ (fun _ => ?_)
theorem surmiseref10_SameVerdicts.mono : ∀ a0 a1 k, LeO (surmiseref10_SameVerdicts.f k a0 a1) (surmiseref10_SameVerdicts.f (k + 1) a0 a1) := by
  intro a0 a1 k
  have ih0 := surmiseref10_SameVerdicts.mono_l k
  unfold surmiseref10_SameVerdicts.f
  repeat' first
      | (with_reducible exact ih0 _ _ _)
      | (with_reducible exact LeO.refl _)
      | (with_reducible exact LeO.none _)
      | (with_reducible refine LeO.ite ?_ ?_)
      | (with_reducible refine LeO.bind ?_ (fun _ => ?_))
      | exact ih0 _ _ _
      | exact LeO.none _
      | refine LeO.ite ?_ ?_
      | refine LeO.bind ?_ (fun _ => ?_)
set_option maxHeartbeats 8000000 in
set_option maxRecDepth 100000 in
theorem surmiseref10_SameVerdicts.calls (k : Nat) (A0 : Option Addr) (c0 : Nat) (l0 : List (S58)) (A1 : Option Addr) (c1 : Nat) (l1 : List (S58)) (r : Bool) (w : World) (hr0 : Kd.C k58 w A0 l0.length l0) (hc0 : l0.length ≤ c0) (hr1 : Kd.C k58 w A1 l1.length l1) (hc1 : l1.length ≤ c1) (h : surmiseref10_SameVerdicts.f k l0 l1 = some r) :
    Calls Try.prog 19 #[.slice A0 l0.length c0, .slice A1 l1.length c1] w fun e w' => e = .returned (.bool r) ∧ Drawn0 w w' := by
  have hu58 := Try.underlying58
  have HR0 := Aside0.mk hr0
  have HC0 := Aside0.mk hc0
  clear hr0 hc0
  have HR1 := Aside0.mk hr1
  have HC1 := Aside0.mk hc1
  clear hr1 hc1
  have H : (if (l0.length : Int) = (l1.length : Int) then (surmiseref10_SameVerdicts.l0 k l0 l1 0) else (some false)) = some r := h
  clear h
  by_cases c3 : (l0.length : Int) = (l1.length : Int)
  · rw [if_pos c3] at H
    have c3b0 : ((l0.length : Int) == (l1.length : Int)) = true := beq_iff_eq.mpr c3
    have c3b1 : ((l0.length : Int) != (l1.length : Int)) = false := bne_eq_false_iff_eq.mpr c3
    have c3b2 : (l0.length == l1.length) = true := by first | simpa using c3 | (simp at c3 ⊢; omega)
    clear c3
    have H' := Aside0.mk H
    clear H
    go_enter Try.func19, Try.ntmps19
    go_wp2
    repeat (go_quiet (fail); try go_wp2)
    go_loopg [5] k (fun kq v5 w' => ∃ (x5_1 : Int), v5 = .int .i64 x5_1 ∧ Aside0 (surmiseref10_SameVerdicts.l0 kq l0 l1 x5_1 = some r) ∧ Aside0 (kq ≤ k) ∧ Drawn0 w w')
    case atStart => exact ⟨(0), (by first | rfl | (simp; done) | (simp [*]; done)), H', ⟨Nat.le_refl _⟩, by repeat (first | exact Drawn0.refl _ | apply Drawn0.step)⟩
    case round =>
      clear H'
      try clear c1
      try clear p2
      try clear c3
      try clear c3b0
      try clear c3b1
      try clear c3b2
      obtain ⟨x5_1, rfl, HA, HK1, ⟨m1, rfl⟩⟩ := hrel
      cases gk with
      | zero => exact absurd HA.out (by simp [surmiseref10_SameVerdicts.l0])
      | succ k1 =>
        have H := HA.out
        clear HA
        simp only [surmiseref10_SameVerdicts.l0] at H
        by_cases c4 : x5_1 < (l0.length : Int)
        · rw [if_pos c4] at H
          have c4b0 : decide (x5_1 < (l0.length : Int)) = true := decide_eq_true c4
          clear c4
          by_cases c5 : 0 ≤ x5_1
          · rw [if_pos c5] at H
            have c5b0 : decide (0 ≤ x5_1) = true := decide_eq_true c5
            clear c5
            by_cases c6 : x5_1 < (l1.length : Int)
            · rw [if_pos c6] at H
              have c6b0 : decide (x5_1 < (l1.length : Int)) = true := decide_eq_true c6
              clear c6
              by_cases c7 : (!(((rd_T58 l0 x5_1).f0) == ((rd_T58 l1 x5_1).f0)) || (!(((rd_T58 l0 x5_1).f1) == ((rd_T58 l1 x5_1).f1)))) = true
              · rw [if_pos c7] at H
                have c7b0 : (!(((rd_T58 l0 x5_1).f0) == ((rd_T58 l1 x5_1).f0)) || (!(((rd_T58 l0 x5_1).f1) == ((rd_T58 l1 x5_1).f1)))) = true := c7
                clear c7
                obtain rfl := Option.some.inj H
                have p135 : 0 ≤ (x5_1 : Int) := of_decide_eq_true (by first | (with_reducible assumption) | assumption)
                have q135 : x5_1 < (l0.length : Int) := of_decide_eq_true (by first | (with_reducible assumption) | assumption)
                obtain ⟨ad135, e135, hx135_0, hx135_1⟩ := at_T58 HR0.out x5_1 p135 q135
                cases e135
                replace p135 := eq_true p135
                replace q135 := eq_true q135
                have p136 : 0 ≤ (x5_1 : Int) := of_decide_eq_true (by first | (with_reducible assumption) | assumption)
                have q136 : x5_1 < (l1.length : Int) := of_decide_eq_true (by first | (with_reducible assumption) | assumption)
                obtain ⟨ad136, e136, hx136_0, hx136_1⟩ := at_T58 HR1.out x5_1 p136 q136
                cases e136
                replace p136 := eq_true p136
                replace q136 := eq_true q136
                go_wp2
                repeat (go_quiet (fail); try go_wp2)
                go_ret
                exact ⟨by first | rfl | (simp; done) | (simp [*]; done), by repeat (first | exact Drawn0.refl _ | apply Drawn0.step)⟩
              · rw [if_neg c7] at H
                have c7b0 : (!(((rd_T58 l0 x5_1).f0) == ((rd_T58 l1 x5_1).f0)) || (!(((rd_T58 l0 x5_1).f1) == ((rd_T58 l1 x5_1).f1)))) = false := by simpa using c7
                clear c7
                have H' := Aside0.mk H
                clear H
                have p135 : 0 ≤ (x5_1 : Int) := of_decide_eq_true (by first | (with_reducible assumption) | assumption)
                have q135 : x5_1 < (l0.length : Int) := of_decide_eq_true (by first | (with_reducible assumption) | assumption)
                obtain ⟨ad135, e135, hx135_0, hx135_1⟩ := at_T58 HR0.out x5_1 p135 q135
                cases e135
                replace p135 := eq_true p135
                replace q135 := eq_true q135
                have p136 : 0 ≤ (x5_1 : Int) := of_decide_eq_true (by first | (with_reducible assumption) | assumption)
                have q136 : x5_1 < (l1.length : Int) := of_decide_eq_true (by first | (with_reducible assumption) | assumption)
                obtain ⟨ad136, e136, hx136_0, hx136_1⟩ := at_T58 HR1.out x5_1 p136 q136
                cases e136
                replace p136 := eq_true p136
                replace q136 := eq_true q136
                go_wp2
                repeat (go_quiet (fail); try go_wp2)
                go_roundg k1
                case measure => have := HK1.out; omega
                case rel => exact ⟨(wrap64 (x5_1 + 1)), (by first | rfl | (simp; done) | (simp [*]; done)), H', ⟨by have := HK1.out; omega⟩, by repeat (first | exact Drawn0.refl _ | apply Drawn0.step)⟩
            · rw [if_neg c6] at H
              exact absurd H (by simp)
          · rw [if_neg c5] at H
            exact absurd H (by simp)
        · rw [if_neg c4] at H
          have c4b0 : decide (x5_1 < (l0.length : Int)) = false := decide_eq_false c4
          clear c4
          obtain rfl := Option.some.inj H
          go_wp2
          repeat (go_quiet (fail); try go_wp2)
          go_ret
          exact ⟨by first | rfl | (simp; done) | (simp [*]; done), by repeat (first | exact Drawn0.refl _ | apply Drawn0.step)⟩
  · rw [if_neg c3] at H
    have c3b0 : ((l0.length : Int) == (l1.length : Int)) = false := beq_eq_false_iff_ne.mpr c3
    have c3b1 : ((l0.length : Int) != (l1.length : Int)) = true := bne_iff_ne.mpr c3
    have c3b2 : (l0.length == l1.length) = false := by first | simpa using c3 | (simp at c3 ⊢; omega)
    obtain rfl := Option.some.inj H
    go_enter Try.func19, Try.ntmps19
    go_wp2
    repeat (go_quiet (fail); try go_wp2)
    go_ret
    exact ⟨by first | rfl | (simp; done) | (simp [*]; done), by repeat (first | exact Drawn0.refl _ | apply Drawn0.step)⟩

end Go.Proofs.Ytfmlamnkpoloaaa.Q

/- What is done for one client changes nothing of others: the plain part. -/
namespace Go.Proofs.Ytfmlamnkpoloaaa.Q
open Go.RowKit Go.Proofs.YtfmlamnkpoloaaaW.PrintWords Go.Proofs.YtfmlamnkpoloaaaW.PrintLast Go.Proofs.YtfmlamnkpoloaaaW.PrintMore
set_option linter.unusedVariables false
set_option linter.unusedSimpArgs false

theorem same_l0 (l : List S58) (hl : l.length ≤ 1099511627776) (d : Nat) : ∀ (k i : Nat), i + d = l.length → d < k → surmiseref10_SameVerdicts.l0 k l l (i : Int) = some true := by
  induction d with
  | zero =>
    intro k i hi hk
    obtain ⟨k, rfl⟩ : ∃ m, k = m + 1 := ⟨k - 1, by omega⟩
    simp only [surmiseref10_SameVerdicts.l0]
    rw [if_neg (by omega)]
  | succ d ih =>
    intro k i hi hk
    obtain ⟨k, rfl⟩ : ∃ m, k = m + 1 := ⟨k - 1, by omega⟩
    simp only [surmiseref10_SameVerdicts.l0]
    rw [if_pos (by omega), if_pos (by omega), if_pos (by omega)]
    have e : wrap64 ((i : Int) + 1) = ((i + 1 : Nat) : Int) := by unfold wrap64; omega
    rw [e, if_neg (by simp)]
    exact ih k (i + 1) (by omega) (by omega)
theorem same_verdicts (l : List S58) (hl : l.length ≤ 1099511627776) : surmiseref10_SameVerdicts.f (l.length + 1) l l = some true := by
  unfold surmiseref10_SameVerdicts.f
  rw [if_pos rfl]
  exact same_l0 l hl l.length (l.length + 1) 0 (by omega) (by omega)
theorem same_calls (v1 v2 : Value) (l : List S58) (hl : l.length ≤ 1099511627776) (w : World) {b1 b2 : Nat} {ok1 ok2 : Nat → Prop} (h1 : Kd.R k58 58 w b1 ok1 v1 l) (h2 : Kd.R k58 58 w b2 ok2 v2 l) :
    Calls Try.prog 19 #[v1, v2] w fun e w' => e = .returned (.bool true) ∧ Below w.heap.size w w' := by
  obtain ⟨A1, c1, rfl, hc1, hC1⟩ := Kd.R_reads h1
  obtain ⟨A2, c2, rfl, hc2, hC2⟩ := Kd.R_reads h2
  refine (surmiseref10_SameVerdicts.calls (l.length + 1) A1 c1 l A2 c2 l true w hC1 hc1 hC2 hc2 (same_verdicts l hl)).mono fun e w' he => ?_
  obtain ⟨he, hd⟩ := he
  exact ⟨he, hd.below⟩
theorem xDo_other {X : Rb} {kd cl sq co : Int} {m : Nat} (h : cl ≠ (m : Int)) : (xDo X kd cl sq co) m = X m := by
  have key : ∀ c : Rc, isC cl → (X.upd cl.toNat c) m = X m := by
    intro c hc
    unfold Rb.upd
    rw [if_neg (by unfold isC at hc; omega)]
  have hput : ∀ sq, (rPut X cl sq co).2 m = X m := by
    intro sq
    unfold rPut
    repeat (first | rfl | (apply key; assumption) | split)
  have hget : ∀ sq, (rGets X cl sq).2 m = X m := by
    intro sq
    unfold rGets
    repeat (first | rfl | (apply key; assumption) | split)
  unfold xDo
  repeat (first | rfl | apply hput | apply hget | split)
theorem rupd_self {X : Rb} {m : Nat} {c : Rc} : (X.upd m c) m = c := by unfold Rb.upd; rw [if_pos rfl]
theorem xDo_same {X Y : Rb} {kd sq co : Int} {m : Nat} (h : X m = Y m) : (xDo X kd m sq co) m = (xDo Y kd m sq co) m := by
  have hput : ∀ sq, (rPut X m sq co).2 m = (rPut Y m sq co).2 m := by
    intro sq
    unfold rPut
    simp only [Int.toNat_natCast, h]
    split
    · split
      · exact h
      · split
        · exact h
        · split
          · exact h
          · split
            · exact h
            · show (Rb.upd X m _) m = (Rb.upd Y m _) m
              rw [rupd_self, rupd_self]
    · exact h
  have hget : ∀ sq, (rGets X m sq).2 m = (rGets Y m sq).2 m := by
    intro sq
    unfold rGets
    simp only [Int.toNat_natCast, h]
    split
    · split
      · exact h
      · show (Rb.upd X m _) m = (Rb.upd Y m _) m
        rw [rupd_self, rupd_self]
    · exact h
  have hn : rNext X m = rNext Y m := by unfold rNext; simp only [Int.toNat_natCast, h]
  unfold xDo
  rw [hn]
  split
  · exact hput _
  · split
    · exact hput _
    · split
      · exact hget _
      · split
        · split
          · exact h
          · exact hget _
        · exact h
def yact (o : Int) (Y : Rb) (a : S28) : Rb := if a.f1 = o then xDo Y a.f0 a.f1 a.f2 a.f3 else Y
def yruns (o : Int) (l : List S28) : Rb := l.foldl (yact o) X0
theorem yruns_eq (m : Nat) (l : List S28) : (runs l).2 m = yruns m l m := by
  have : ∀ (l : List S28) (S : Tb × Rb) (Y : Rb), S.2 m = Y m → (l.foldl act S).2 m = (l.foldl (yact m) Y) m := by
    intro l
    induction l with
    | nil => intro S Y h; exact h
    | cons a l ih =>
      intro S Y h
      refine ih _ _ ?_
      unfold act yact
      by_cases e : a.f1 = (m : Int)
      · rw [if_pos e, e]
        exact xDo_same h
      · rw [if_neg e]
        exact (xDo_other e).trans h
  exact this l _ _ rfl
theorem yruns_snoc (o : Int) (l : List S28) (i : Nat) (h : i < l.length) : yruns o (l.take (i + 1)) = yact o (yruns o (l.take i)) l[i] := by
  rw [List.take_succ_eq_append_getElem h]
  unfold yruns
  rw [List.foldl_append]
  rfl
theorem RefAt.bound {w : World} {ok : Nat → Prop} {x xl : Nat} {X : Rb} (h : RefAt ok w x xl X) : RefAt (fun k => ok k ∧ k < w.heap.size) w x xl X := by
  obtain ⟨cs, hb, hz, ha⟩ := h.all
  exact ⟨h.top, cs, hb, hz, fun n hn => ⟨by obtain ⟨v, h1, h2⟩ := (ha n hn).1; exact ⟨v, h1, Kd.V_bound h2⟩, (ha n hn).2⟩⟩
theorem RefAt.mono {w : World} {ok ok' : Nat → Prop} {x xl : Nat} {X : Rb} (h : RefAt ok w x xl X) (hk : ∀ k, ok k → ok' k) : RefAt ok' w x xl X := by
  obtain ⟨cs, hb, hz, ha⟩ := h.all
  exact ⟨h.top, cs, hb, hz, fun n hn => ⟨by obtain ⟨v, h1, h2⟩ := (ha n hn).1; exact ⟨v, h1, Kd.V_mono h2 hk⟩, (ha n hn).2⟩⟩
theorem TabAt.bound {w : World} {ok : Nat → Prop} {t : Nat} {T : Tb} (h : TabAt ok w t T) : TabAt (fun k => ok k ∧ k < w.heap.size) w t T := by
  obtain ⟨cs, hb, hz, ha⟩ := h.all
  exact ⟨cs, hb, hz, fun n hn => ⟨(ha n hn).1, by obtain ⟨v, h1, h2⟩ := (ha n hn).2; exact ⟨v, h1, Kd.V_bound h2⟩⟩⟩
theorem TabAt.mono {w : World} {ok ok' : Nat → Prop} {t : Nat} {T : Tb} (h : TabAt ok w t T) (hk : ∀ k, ok k → ok' k) : TabAt ok' w t T := by
  obtain ⟨cs, hb, hz, ha⟩ := h.all
  exact ⟨cs, hb, hz, fun n hn => ⟨(ha n hn).1, by obtain ⟨v, h1, h2⟩ := (ha n hn).2; exact ⟨v, h1, Kd.V_mono h2 hk⟩⟩⟩

end Go.Proofs.Ytfmlamnkpoloaaa.Q

/- The contract of awake. -/
namespace Go.Proofs.Ytfmlamnkpoloaaa.Q
open Go.RowKit Go.Proofs.YtfmlamnkpoloaaaW.PrintWords Go.Proofs.YtfmlamnkpoloaaaW.PrintLast Go.Proofs.YtfmlamnkpoloaaaW.PrintMore
attribute [local go_sem high] eqA58
set_option linter.unusedVariables false
set_option linter.unusedSimpArgs false

/-- A table of the call's own. -/
structure Own (w0 w : World) (t : Nat) (T : Tb) : Prop where
  tab : TabAt (fun k => k ≠ t) w t T
  fine : ∀ m, m < 6 → Fine (T m)
  low : Below w0.heap.size w0 w
  ge : w0.heap.size ≤ t
section
variable {w0 w w' : World} {t : Nat} {T T' : Tb} {n seq code r : Int}
theorem Own.step (h : Own w0 w t T) (ht : TabAt (fun k => k ≠ t) w' t T') (hF : ∀ m, m < 6 → Fine (T' m)) (hc : Chg (fun k => k = t) w w') : Own w0 w' t T' := ⟨ht, hF, hc.below h.low h.low.size (fun k hk => by subst hk; exact h.ge), h.ge⟩
theorem Own.below (h : Own w0 w t T) (hb : Below w.heap.size w w') : Own w0 w' t T := ⟨h.tab.chg (Chg.of_below hb (fun _ => False)) (fun h => h) (fun _ _ h => h), h.fine, Below.trans h.low (hb.mono h.low.size), h.ge⟩
theorem own_put (h : Own w0 w t T) (hr : dPut T n seq code = (r, T')) (hF : ∀ m, m < 6 → Fine (T' m)) : Calls Try.prog 13 #[.pointer (some ⟨t, 0, none⟩), .int .i64 n, .int .i64 seq, .int .i64 code] w fun e w' => e = .returned (.int .i64 r) ∧ Own w0 w' t T' :=
  (Put_calls _ t T n seq code w h.tab h.fine (fun _ h => h) (fun k hk => by have := h.tab.lt; omega)).mono fun e w' he => by
    obtain ⟨h1, h2, h3⟩ := he
    rw [hr] at h1 h2
    exact ⟨h1, h.step h2 hF h3⟩
theorem own_got (h : Own w0 w t T) (hr : dGot T n seq = (r, T')) (hF : ∀ m, m < 6 → Fine (T' m)) : Calls Try.prog 11 #[.pointer (some ⟨t, 0, none⟩), .int .i64 n, .int .i64 seq] w fun e w' => e = .returned (.int .i64 r) ∧ Own w0 w' t T' :=
  (Got_calls _ t T n seq w h.tab h.fine (fun _ h => h) (fun k hk => by have := h.tab.lt; omega)).mono fun e w' he => by
    obtain ⟨h1, h2, h3⟩ := he
    rw [hr] at h1 h2
    exact ⟨h1, h.step h2 hF h3⟩
theorem own_drew (h : Own w0 w t T) (k : Nat) : Own w0 (w.drewN k) t T := h.below (pw_below_drewN (Below.refl _ _) k)
theorem own_next (h : Own w0 w t T) (hr : dNext T n = r) : Calls Try.prog 12 #[.pointer (some ⟨t, 0, none⟩), .int .i64 n] w fun e w' => e = .returned (.int .i64 r) ∧ Below w.heap.size w w' :=
  (Next_calls _ t T n w h.tab h.fine).mono fun e w' he => by
    obtain ⟨h1, k, rfl⟩ := he
    rw [hr] at h1
    exact ⟨h1, pw_below_drewN (Below.refl _ _) k⟩
theorem own_first (h : Own w0 w t T) (hr : dFirst T n = r) : Calls Try.prog 23 #[.pointer (some ⟨t, 0, none⟩), .int .i64 n] w fun e w' => e = .returned (.int .i64 r) ∧ Below w.heap.size w w' :=
  (First_calls _ t T n w h.tab h.fine).mono fun e w' he => by
    obtain ⟨h1, k, rfl⟩ := he
    rw [hr] at h1
    exact ⟨h1, pw_below_drewN (Below.refl _ _) k⟩
theorem own_code {a b : Int} (h : Own w0 w t T) (hr : dCode T n seq = (a, b)) : Calls Try.prog 14 #[.pointer (some ⟨t, 0, none⟩), .int .i64 n, .int .i64 seq] w fun e w' => e = .returned (.tuple #[.int .i64 a, .int .i64 b]) ∧ Below w.heap.size w w' :=
  (Code_calls _ t T n seq w h.tab h.fine).mono fun e w' he => by
    obtain ⟨h1, k, rfl⟩ := he
    rw [hr] at h1
    exact ⟨h1, pw_below_drewN (Below.refl _ _) k⟩
theorem own_kept {x : S58} (h : Own w0 w t T) (hr : dKept T n = [x]) : Calls Try.prog 20 #[.pointer (some ⟨t, 0, none⟩), .int .i64 n] w fun e w' => ∃ ad c, e = .returned (.slice (some ad) 1 c) ∧ 1 ≤ c ∧ w'.cell? ad = some (.int .i64 x.f0) ∧ w'.cell? ⟨ad.block, ad.off + 1, none⟩ = some (.int .i64 x.f1) ∧ Below w.heap.size w w' :=
  (Kept_calls _ t T n w h.tab h.fine).mono fun e w' he => by
    obtain ⟨v, h1, h2, h3⟩ := he
    rw [hr] at h2
    obtain ⟨A, c, rfl, hlc, hC⟩ := Kd.R_reads h2
    obtain ⟨ad, rfl, y0, y1⟩ := at_T58 hC 0 (by decide) (by simp)
    have e0 : ad.add ((0 : Int).toNat * 2) = ad := by simp [Addr.add]
    rw [e0] at y0 y1
    exact ⟨ad, c, h1, hlc, y0, y1, h3⟩
end
def Ta : Tb := T0.upd 1 ⟨0, [0]⟩
def Tc : Tb := T0.upd 1 ⟨0, [0, 16]⟩
def Te : Tb := T0.upd 1 ⟨1, [16]⟩
theorem fine0 : Fine ⟨0, []⟩ := by unfold Fine; decide
theorem upd_fine (c : Cl) (hc : Fine c) : ∀ m, m < 6 → Fine (T0.upd 1 c m) := by
  intro m _
  unfold Tb.upd
  split
  · exact hc
  · exact fine0
theorem upd_upd (T : Tb) (n : Nat) (c c' : Cl) : (T.upd n c).upd n c' = T.upd n c' := by
  funext m
  unfold Tb.upd
  by_cases e : m = n <;> simp [e]
theorem f0 : ∀ m, m < 6 → Fine (T0 m) := fun m _ => fine0
theorem fa : ∀ m, m < 6 → Fine (Ta m) := upd_fine _ (by unfold Fine; decide)
theorem fc : ∀ m, m < 6 → Fine (Tc m) := upd_fine _ (by unfold Fine; decide)
theorem fe : ∀ m, m < 6 → Fine (Te m) := upd_fine _ (by unfold Fine; decide)
theorem p1 : dPut T0 1 1 0 = (0, Ta) := rfl
theorem p2 : dPut Ta 1 2 16 = (0, Tc) := by
  have e : dPut Ta 1 2 16 = (0, Ta.upd 1 ⟨0, [0, 16]⟩) := rfl
  rw [e, Ta, upd_upd]
  rfl
theorem p3 : dPut Tc 1 2 0 = (9, Tc) := rfl
theorem p4 : dGot Tc 1 1 = (0, Te) := by
  have e : dGot Tc 1 1 = (0, Tc.upd 1 ⟨1, [16]⟩) := rfl
  rw [e, Tc, upd_upd]
  rfl
set_option maxHeartbeats 4000000 in
set_option maxRecDepth 100000 in
theorem awake_calls (w : World) : Calls Try.prog 9 #[] w fun e w' => e = .returned (.bool true) ∧ Below w.heap.size w w' := by
  go_enter Try.func9, Try.ntmps9
  go_wp2_with (first
    | (go_at_call 8; refine (new_calls _).mono ?_; rintro e w1 ⟨rfl, h1, b1, -⟩; have HO := Aside0.mk (show Own w w1 w.heap.size T0 from ⟨h1 _, f0, b1, Nat.le_refl _⟩); clear h1 b1)
    | (go_at_call 13; (with_reducible refine (own_put (n := 1) (seq := 1) (code := 0) HO.out p1 fa).mono ?_); rintro e w2 ⟨rfl, h⟩; have HO := Aside0.mk h; clear h)
    | (go_at_call 13; (with_reducible refine (own_put (n := 1) (seq := 2) (code := 16) HO.out p2 fc).mono ?_); rintro e w2 ⟨rfl, h⟩; have HO := Aside0.mk h; clear h)
    | (go_at_call 13; (with_reducible refine (own_put (n := 1) (seq := 2) (code := 0) HO.out p3 fc).mono ?_); rintro e w2 ⟨rfl, h⟩; have HO := Aside0.mk h; clear h)
    | (go_at_call 11; (with_reducible refine (own_got (n := 1) (seq := 1) HO.out p4 fe).mono ?_); rintro e w2 ⟨rfl, h⟩; have HO := Aside0.mk h; clear h)
    | (go_at_call 14; (with_reducible refine (own_code (n := 1) (seq := 1) (a := 0) (b := 13) HO.out rfl).mono ?_); rintro e w2 ⟨rfl, hb⟩; have HO := Aside0.mk (HO.out.below hb); clear hb)
    | (go_at_call 20; (with_reducible refine (own_kept (n := 1) (x := ⟨2, 16⟩) HO.out rfl).mono ?_); rintro e w2 ⟨ad, c, rfl, hlc, y0, y1, hb⟩; have HO := Aside0.mk (HO.out.below hb); clear hb)
    | (go_at_call 12; (with_reducible refine (own_next (n := 1) (r := 3) HO.out rfl).mono ?_); rintro e w3 ⟨rfl, hb⟩; have HO := Aside0.mk (HO.out.below hb); clear hb)
    | (go_at_call 23; (with_reducible refine (own_first (n := 1) (r := 2) HO.out rfl).mono ?_); rintro e w3 ⟨rfl, hb⟩; have HO := Aside0.mk (HO.out.below hb); clear hb)
    | (go_at_call 12; (with_reducible refine (own_next (n := 0) (r := 1) HO.out rfl).mono ?_); rintro e w3 ⟨rfl, hb⟩; have HO := Aside0.mk (HO.out.below hb); clear hb))
  go_ret
  exact ⟨rfl, HO.out.low⟩

end Go.Proofs.Ytfmlamnkpoloaaa.Q

/- The law DedupApart. -/
namespace Go.Proofs.Ytfmlamnkpoloaaa.Q
open Go.RowKit Go.Proofs.YtfmlamnkpoloaaaW.PrintWords Go.Proofs.YtfmlamnkpoloaaaW.PrintLast Go.Proofs.YtfmlamnkpoloaaaW.PrintMore
set_option linter.unusedVariables false
set_option linter.unusedSimpArgs false

/-- Both tables, once nothing is done to them any more, and the third one. -/
structure Three (N2 B : Nat) (w : World) (t x xl yx yl : Nat) (T : Tb) (X Y : Rb) : Prop where
  tab : TabAt (fun k => k < N2) w t T
  ref : RefAt (fun k => k < N2) w x xl X
  third : RefAt (fun k => k ≠ yx ∧ k ≠ yl) w yx yl Y
  fine : ∀ m, m < 6 → Fine (T m)
  rfine : ∀ m, m < 6 → RFine (X m)
  yfine : ∀ m, m < 6 → 0 ≤ (Y m).ahead ∧ (Y m).ahead ≤ (Y m).got ∧ (Y m).got ≤ (Y m).ahead + (Y m).codes.length ∧ (Y m).ahead + (Y m).codes.length ≤ B
  room : B ≤ 100000
  lt : t < N2 ∧ x < N2 ∧ xl < N2
  ge : N2 ≤ yx ∧ N2 ≤ yl
  ne : yx ≠ yl
theorem Three.below {N2 B : Nat} {w w' : World} {t x xl yx yl : Nat} {T : Tb} {X Y : Rb} (h : Three N2 B w t x xl yx yl T X Y) (hb : Below w.heap.size w w') : Three N2 B w' t x xl yx yl T X Y :=
  have hc := Chg.of_below hb (fun _ => False)
  ⟨h.tab.chg hc (fun h => h) (fun _ _ h => h), h.ref.chg hc (fun h => h) (fun h => h) (fun _ _ h => h), h.third.chg hc (fun h => h) (fun h => h) (fun _ _ h => h), h.fine, h.rfine, h.yfine, h.room, h.lt, h.ge, h.ne⟩
theorem Three.more {N2 B B' : Nat} {w : World} {t x xl yx yl : Nat} {T : Tb} {X Y : Rb} (h : Three N2 B w t x xl yx yl T X Y) (hb : B ≤ B') (hb' : B' ≤ 100000) : Three N2 B' w t x xl yx yl T X Y :=
  ⟨h.tab, h.ref, h.third, h.fine, h.rfine, fun m hm => by have := h.yfine m hm; omega, hb', h.lt, h.ge, h.ne⟩
theorem Three.yfines {N2 B : Nat} {w : World} {t x xl yx yl : Nat} {T : Tb} {X Y : Rb} (h : Three N2 B w t x xl yx yl T X Y) : ∀ m, m < 6 → RFine (Y m) := fun m hm => by
  obtain ⟨h1, h3, h4, h5⟩ := h.yfine m hm
  have h2 := h.room
  exact ⟨h1, h3, h4, by omega, by omega⟩
/-- The third one beside a new table. -/
theorem Three.both {N2 B : Nat} {w w1 : World} {t x xl yx yl : Nat} {T : Tb} {X Y : Rb} (h : Three N2 B w t x xl yx yl T X Y) (h1 : ∀ ok, TabAt ok w1 w.heap.size T0) (hb : Below w.heap.size w w1) (e1 : w1.heap.size = w.heap.size + 1) :
    Both (fun k => k ≠ yx ∧ k ≠ yl ∧ k ≠ w.heap.size) w1.heap.size B w1 w.heap.size yx yl T0 Y := by
  have hl := h.third.lt
  have hc := Chg.of_below hb (fun _ => False)
  exact ⟨h1 _, (h.third.bound.chg hc (fun h => h) (fun h => h) (fun _ _ h => h)).mono (fun k hk => ⟨hk.1.1, hk.1.2, by omega⟩), fun m _ => ⟨Int.le_refl 0, by show (0 : Int) + 0 ≤ _; omega⟩, h.yfine, h.room, fun k hk => hk.2.2, fun k hk => hk.1, fun k hk => hk.2.1, by omega, by omega, h.ne, fun k hk => ⟨by omega, by omega, by omega⟩, Nat.le_refl _⟩
theorem Three.of_both {N2 B B' : Nat} {w w1 : World} {t x xl yx yl tn : Nat} {T T' : Tb} {X Y Y' : Rb} {ok : Nat → Prop} {N : Nat} (h : Three N2 B w t x xl yx yl T X Y) (hb : Both ok N B' w1 tn yx yl T' Y') (hok : ∀ k, ok k → k ≠ yx ∧ k ≠ yl) (htn : N2 ≤ tn) (hc : Chg (fun k => k = tn ∨ k = yl) w w1) : Three N2 B' w1 t x xl yx yl T X Y' :=
  ⟨h.tab.chg hc (by have := h.lt; have := h.ge; omega) (fun k hk => by have := h.ge; omega), h.ref.chg hc (by have := h.lt; have := h.ge; omega) (by have := h.lt; have := h.ge; omega) (fun k hk => by have := h.ge; omega), hb.ref.mono hok, h.fine, h.rfine, hb.rfine, hb.room, h.lt, h.ge, h.ne⟩

theorem act_S {w : World} {ad : Addr} {l : List S28} (h : Kd.C k28 w (some ad) l.length l) (i : Nat) (hi : i < l.length) :
    w.cell? (ad.add (i * 4)) = some (.int .i64 l[i].f0) ∧ w.cell? ⟨(ad.add (i * 4)).block, (ad.add (i * 4)).off + 1, none⟩ = some (.int .i64 l[i].f1) ∧ w.cell? ⟨(ad.add (i * 4)).block, (ad.add (i * 4)).off + 2, none⟩ = some (.int .i64 l[i].f2) ∧ w.cell? ⟨(ad.add (i * 4)).block, (ad.add (i * 4)).off + 3, none⟩ = some (.int .i64 l[i].f3) := by
  obtain ⟨ad', e, h1⟩ := act_cells h i hi
  cases e
  exact h1
theorem Three.start {B : Nat} {ok : Nat → Prop} {N : Nat} {w w1 : World} {t x xl : Nat} {T : Tb} {X : Rb} (h : Both ok N B w t x xl T X) (h1 : ∀ ok, RefAt ok w1 (w.heap.size + 1) w.heap.size X0) (hb : Below w.heap.size w w1) : Three w.heap.size 0 w1 t x xl (w.heap.size + 1) w.heap.size T X X0 := by
  have hc := Chg.of_below hb (fun _ => False)
  have l1 := h.tab.lt
  have l2 := h.ref.lt
  exact ⟨(h.tab.bound.chg hc (fun h => h) (fun _ _ h => h)).mono (fun k hk => hk.2), (h.ref.bound.chg hc (fun h => h) (fun h => h) (fun _ _ h => h)).mono (fun k hk => hk.2), h1 _, h.fines, h.rfines, fun m _ => ⟨Int.le_refl 0, Int.le_refl 0, Int.le_refl 0, Int.le_refl 0⟩, by decide, ⟨l1, l2.1, l2.2⟩, ⟨by omega, by omega⟩, by omega⟩
section
variable {N2 B : Nat} {w : World} {t x xl yx yl : Nat} {T : Tb} {X Y : Rb} {n v : Int}
theorem drew_below {P : Value → Prop} {f : FuncId} {args : Array Value} {v : Value} (hc : Calls Try.prog f args w fun e w' => e = .returned v ∧ ∃ k, w' = w.drewN k) : Calls Try.prog f args w fun e w' => e = .returned v ∧ Below w.heap.size w w' :=
  hc.mono fun e w' he => by
    obtain ⟨he, k, rfl⟩ := he
    exact ⟨he, pw_below_drewN (Below.refl _ _) k⟩
theorem thr_next (h : Three N2 B w t x xl yx yl T X Y) (hv : dNext T n = v) : Calls Try.prog 12 #[.pointer (some ⟨t, 0, none⟩), .int .i64 n] w fun e w' => e = .returned (.int .i64 v) ∧ Below w.heap.size w w' := by
  subst hv
  exact drew_below (P := fun _ => True) (Next_calls _ t T n w h.tab h.fine)
theorem thr_rnext (h : Three N2 B w t x xl yx yl T X Y) (hv : rNext X n = v) : Calls Try.prog 18 #[.pointer (some ⟨x, 0, none⟩), .int .i64 n] w fun e w' => e = .returned (.int .i64 v) ∧ Below w.heap.size w w' := by
  subst hv
  exact drew_below (P := fun _ => True) (rNext_calls _ x xl X n w h.ref h.rfine)
theorem thr_ynext (h : Three N2 B w t x xl yx yl T X Y) (hv : rNext Y n = v) : Calls Try.prog 18 #[.pointer (some ⟨yx, 0, none⟩), .int .i64 n] w fun e w' => e = .returned (.int .i64 v) ∧ Below w.heap.size w w' := by
  subst hv
  exact drew_below (P := fun _ => True) (rNext_calls _ yx yl Y n w h.third h.yfines)
end
theorem kept_len {T : Tb} (hF : ∀ m, m < 6 → Fine (T m)) (n : Int) : (dKept T n).length ≤ 1099511627776 := by
  unfold dKept
  split
  · rename_i hn
    rw [kv_length]
    exact (hF _ (isC_lt hn)).2.2
  · simp
set_option maxHeartbeats 4000000 in
set_option maxRecDepth 100000 in
theorem dedupApart_hand (A : Option Addr) (c : Nat) (l : List S28) (kd cl sq co other : Int) (w : World) (hG : l.length * 32 ≤ 140737488351232 ∧ l.length ≤ 9223372036854775807 ∧ ∀ a ∈ l, Wf a) (h0 : (Lit.int .i64 kd).wf = true) (h1 : (Lit.int .i64 cl).wf = true) (h2 : (Lit.int .i64 sq).wf = true) (h3 : (Lit.int .i64 co).wf = true) (h4 : (Lit.int .i64 other).wf = true) (hC : Kd.C k28 w A l.length l) (hle : l.length ≤ c) :
    Calls Try.prog 4 #[.slice A l.length c, .agg #[.int .i64 kd, .int .i64 cl, .int .i64 sq, .int .i64 co], .int .i64 other] w fun e w' => e = .returned (.bool true) ∧ Below w.heap.size w w' := by
  have HG := Aside0.mk hG
  have HS := Aside0.mk (wf_in h2)
  have HC := Aside0.mk hC
  have hm := hG.2.1
  clear hG h0 h1 h2 h3 h4 hC
  by_cases hstop : cl = other ∨ ¬ isC other
  · have HO := Aside0.mk hstop
    have hco : (cl == other) = true ∨ (cl == other) = false := by cases (cl == other) <;> simp
    have HI : cl ≠ other → ¬ isC other := fun h => hstop.resolve_left h
    have HIO := Aside0.mk HI
    clear hstop HI
    rcases hco with hco | hco
    case' inr => have HNI := Aside0.mk (HIO.out (by simpa using hco))
    all_goals
      go_enter Try.func4, Try.ntmps4
      go_wp2_with (first
        | ((with_reducible refine gate_dst (N := 4) rfl ?_); refine box_event ?hg (N := 4) ?hd (cs := #[.int .i64 kd, .int .i64 cl, .int .i64 sq, .int .i64 co]) (t := 28) ?hr ?_; (case hd => rfl); (case hg => rfl); (case hr => first | (go_simp; done) | (go_simp; rfl)); intro gA hgA w1 hbox hb1; have HL := Aside0.mk hb1; have BK := Aside0.mk hbox; obtain ⟨d0, d1, d2, d3, f0, f1, f2, f3⟩ := box4 hbox; clear hb1 hbox hgA)
        | (go_at_call 15; refine (made_calls A c l _ HG.out.2.2 hm (Kd.C_below HC.out HL.out) hle).mono ?_; rintro e w2 ⟨rfl, hbo, hb⟩; have n0 := Aside0.mk (blk_below BK.out hb); have n1 := Aside0.mk (below_step HL.out hb); clear BK HL hb hbo d0 d1 d2 d3 f0 f1 f2 f3; have BK := n0; have HL := n1; clear n0 n1; obtain ⟨d0, d1, d2, d3, f0, f1, f2, f3⟩ := box4 BK.out)
        | (go_at_call 9; refine (awake_calls _).mono ?_; rintro e w2 ⟨rfl, hb⟩; have n0 := Aside0.mk (blk_below BK.out hb); have n1 := Aside0.mk (below_step HL.out hb); clear BK HL hb d0 d1 d2 d3 f0 f1 f2 f3; have BK := n0; have HL := n1; clear n0 n1; obtain ⟨d0, d1, d2, d3, f0, f1, f2, f3⟩ := box4 BK.out)
        | (go_at_call 10; refine (is_no other HNI.out _).mono ?_; rintro e w' ⟨rfl, rfl⟩))
    all_goals go_ret
    all_goals exact ⟨rfl, HL.out⟩
  · obtain ⟨hne, hin⟩ : cl ≠ other ∧ isC other := by
      constructor
      · exact fun h => hstop (.inl h)
      · exact Classical.byContradiction fun h => hstop (.inr h)
    have hco : (cl == other) = false := by simpa using hne
    obtain ⟨mo, hmo, rfl⟩ := isC_nat hin
    have HNE := Aside0.mk hne
    clear hstop hin hne
    go_enter Try.func4, Try.ntmps4
    go_wp2_with (first
      | ((with_reducible refine gate_dst (N := 4) rfl ?_); refine box_event ?hg (N := 4) ?hd (cs := #[.int .i64 kd, .int .i64 cl, .int .i64 sq, .int .i64 co]) (t := 28) ?hr ?_; (case hd => rfl); (case hg => rfl); (case hr => first | (go_simp; done) | (go_simp; rfl)); intro gA hgA w1 hbox hb1; have HL := Aside0.mk hb1; have BK := Aside0.mk hbox; obtain ⟨d0, d1, d2, d3, f0, f1, f2, f3⟩ := box4 hbox; clear hb1 hbox hgA)
      | (go_at_call 15; refine (made_calls A c l _ HG.out.2.2 hm (Kd.C_below HC.out HL.out) hle).mono ?_; rintro e w2 ⟨rfl, hbo, hb⟩; have HSZ := Aside0.mk HL.out.size; have n0 := Aside0.mk (blk_below BK.out hb); have n1 := Aside0.mk (below_step HL.out hb); have HB := Aside0.mk hbo; clear BK HL hb hbo d0 d1 d2 d3 f0 f1 f2 f3; have BK := n0; have HL := n1; clear n0 n1; obtain ⟨d0, d1, d2, d3, f0, f1, f2, f3⟩ := box4 BK.out)
      | (go_at_call 9; refine (awake_calls _).mono ?_; rintro e w3 ⟨rfl, hb⟩; have n0 := Aside0.mk (blk_below BK.out hb); have n1 := Aside0.mk (below_step HL.out hb); have n2 := Aside0.mk (HB.out.chg (Chg.of_below hb (fun _ => False)) (fun _ h => h)); clear BK HL HB hb d0 d1 d2 d3 f0 f1 f2 f3; have BK := n0; have HL := n1; have HB := n2; clear n0 n1 n2; obtain ⟨d0, d1, d2, d3, f0, f1, f2, f3⟩ := box4 BK.out)
      | (go_at_call 10; refine (is_yes mo hmo _).mono ?_; rintro e w' ⟨rfl, rfl⟩)
      | (go_at_call 16; refine (do_calls _ _ 240 _ _ _ _ _ kd cl sq co _ HB.out (by decide) HS.out).mono ?_; rintro e w4 ⟨rfl, hbo, hc⟩; have n1 := Aside0.mk (hc.below HL.out HL.out.size (fun k hk => by have := HSZ.out; omega)); have HB4 := Aside0.mk hbo; clear HL HB hbo hc d0 d1 d2 d3 f0 f1 f2 f3 BK; have HL := n1; clear n1)
      | (go_at_call 17; refine (rnew_calls _).mono ?_; rintro e w5 ⟨rfl, h1, hb, -⟩; have HT := Aside0.mk (Three.start HB4.out h1 hb); have n1 := Aside0.mk (below_step HL.out hb); have HSZ4 := Aside0.mk HL.out.size; clear HL h1 hb; have HL := n1; clear n1))
    have HREL := Aside0.mk (rel_do (rel_runs (l.take 120)) kd cl sq co).2
    have HXO := Aside0.mk (xDo_other (X := (runs (l.take 120)).2) (kd := kd) (sq := sq) (co := co) HNE.out)
    generalize hT1 : tDo (runs (l.take 120)).1 (runs (l.take 120)).2 kd cl sq co = T1 at *
    generalize hX1 : xDo (runs (l.take 120)).2 kd cl sq co = X1 at *
    clear hT1 hX1
    go_loopg [12] 120 (fun kq vi wr => ∃ i : Nat, vi = .int .i64 i ∧ Aside0 (i + kq = 120) ∧ Aside0 (i ≤ l.length) ∧ Aside0 (Three w4.heap.size (2 * i) wr w1.heap.size (w1.heap.size + 2) (w1.heap.size + 1) (w4.heap.size + 1) w4.heap.size T1 X1 (yruns mo (l.take i))) ∧ Aside0 (Below w.heap.size w wr))
    case atStart => exact ⟨0, rfl, ⟨by omega⟩, ⟨by omega⟩, HT, HL⟩
    case round =>
      clear HT HL
      obtain ⟨i, rfl, HK, HI, HT, HL⟩ := hrel
      have hi120 : i ≤ 120 := by have := HK.out; omega
      by_cases hgo : i < l.length ∧ i < 120
      · obtain ⟨hlt, h120⟩ := hgo
        obtain ⟨ad, rfl, y0, y1, y2, y3⟩ := act_cells (Kd.C_below HC.out HL.out) i hlt
        have HR := Aside0.mk (yruns_snoc mo l i hlt)
        have HW := Aside0.mk (wf_in (HG.out.2.2 _ (List.getElem_mem hlt)).2.2.1)
        have hi0 : (0 : Int) ≤ (i : Int) := by omega
        have hi1 : (i : Int) < (l.length : Int) := by omega
        by_cases hof : l[i].f1 = (mo : Int)
        · have hofb : (l[i].f1 == (mo : Int)) = true := by simpa using hof
          have HOF := Aside0.mk hof
          clear hof
          go_wp2
          have n1 := Aside0.mk (pw_below_drewN HL.out 1)
          have n2 := Aside0.mk (HT.out.below (pw_below_drewN (Below.refl _ _) 1))
          clear HL HT
          refine wp_plan [(1, 0, 63), (2, 0, 64), (3, 0, 65), (4, 0, 66), (5, 0, 67), (0, 2, 62), (6, 2, 68)] [] (fun W => W.cell? (ad.add (i * 4)) = some (.int .i64 l[i].f0) ∧ W.cell? ⟨(ad.add (i * 4)).block, (ad.add (i * 4)).off + 1, none⟩ = some (.int .i64 l[i].f1) ∧ W.cell? ⟨(ad.add (i * 4)).block, (ad.add (i * 4)).off + 2, none⟩ = some (.int .i64 l[i].f2) ∧ W.cell? ⟨(ad.add (i * 4)).block, (ad.add (i * 4)).off + 3, none⟩ = some (.int .i64 l[i].f3)) (by kernel_rfl) rfl (by kernel_rfl) (fun _ t _ _ _ h => by cases t <;> exact h) ⟨y0, y1, y2, y3⟩ (fun hS => ?_)
          have HL := n1
          have HT := n2
          clear n1 n2
          repeat (refine RP.take (v := ?_) (a' := ?_) rfl rfl (by assumption) (Or.inl ⟨by rfl, ?_⟩) ?_ ?_; rotate_left; (focus (rintro w' ⟨hS0, hS1, hS2, hS3⟩; go_simp; with_reducible rfl)); rotate_left; (focus (simp only [Act.put, List.setIfInBounds_toArray, List.set_cons_zero, List.set_cons_succ, i64_w, i32_w]; rfl)))
          refine RP.one rfl rfl (fun K hK => ?_)
          refine goes_ Try.func8 (by kernel_rfl) rfl #[] (by rfl) rfl rfl (by (try simp only [List.map_toArray, List.map_cons, List.map_nil]); first | done | rfl) ?_
          (with_reducible refine (new_calls _).mono ?_)
          rintro e w6 ⟨rfl, h1, hb, e1⟩
          refine ⟨_, rfl, ?_⟩
          have HBB := Aside0.mk (HT.out.both h1 hb e1)
          have HTN := Aside0.mk (show w4.heap.size ≤ ((wr.drewN 1)).heap.size from by have := HT.out.third.lt; omega)
          have n1 := Aside0.mk (below_step HL.out hb); have n2 := Aside0.mk (HT.out.below hb); clear HL HT; have HL := n1; have HT := n2; clear n1 n2
          refine hK.out _ _ (act_S (Kd.C_below HC.out HL.out) i hlt) (fun hS => ?_)
          clear hK K h1 hb e1
          refine RP.norm (a' := ?_) ?_ ?_
          rotate_left
          · show Act.put _ (some 62) _ = _
            simp only [Act.put, List.setIfInBounds_toArray, List.set_cons_zero, List.set_cons_succ, i64_w, i32_w]
            rfl
          refine RP.one rfl rfl (fun K hK => ?_)
          refine goes_ Try.func16 (by kernel_rfl) rfl #[.pointer (some ⟨(wr.drewN 1).heap.size, 0, none⟩), .pointer (some ⟨w4.heap.size + 1, 0, none⟩), .agg #[.int .i64 l[i].f0, .int .i64 l[i].f1, .int .i64 l[i].f2, .int .i64 l[i].f3]] (by rfl) rfl rfl (by (try simp only [List.map_toArray, List.map_cons, List.map_nil]); first | done | rfl) ?_
          (with_reducible refine (do_calls _ _ (2 * i) _ _ _ _ _ l[i].f0 l[i].f1 l[i].f2 l[i].f3 _ HBB.out (by omega) HW.out).mono ?_)
          rintro e w7 ⟨rfl, hbo, hc⟩
          refine ⟨_, rfl, ?_⟩
          have n1 := Aside0.mk (hc.below HL.out HL.out.size (fun k hk => by have := HSZ4.out; have := HTN.out; omega))
          have n2 := Aside0.mk (HT.out.of_both hbo (fun k hk => ⟨hk.1, hk.2.1⟩) HTN.out hc)
          clear HL HT
          have HL := n1
          have HT := n2
          clear n1 n2 hbo hc
          refine hK.out _ _ (act_S (Kd.C_below HC.out HL.out) i hlt) (fun hS => ?_)
          clear hK K
          refine RP.nil ?_
          go_wp2
          go_roundg (120 - (i + 1))
          case measure => have := HK.out; omega
          case rel => exact ⟨i + 1, by go_num, ⟨by omega⟩, ⟨by omega⟩, ⟨by rw [HR.out, yact, if_pos HOF.out]; exact HT.out⟩, HL⟩
        · have hofb : (l[i].f1 == (mo : Int)) = false := by simpa using hof
          have HOF := Aside0.mk hof
          clear hof
          go_wp2
          go_roundg (120 - (i + 1))
          case measure => have := HK.out; omega
          case rel => exact ⟨i + 1, by go_num, ⟨by omega⟩, ⟨by omega⟩, ⟨by rw [HR.out, yact, if_neg HOF.out]; exact HT.out.more (by omega) (by omega)⟩, HL⟩
      · have HE := Aside0.mk (show l.take i = l.take 120 by
          rcases Nat.lt_or_ge i l.length with h | h
          · obtain rfl : i = 120 := by omega
            rfl
          · rw [List.take_of_length_le h, List.take_of_length_le (by omega)])
        have HYX := Aside0.mk (show rNext (yruns mo (l.take i)) mo = rNext X1 mo by
          unfold rNext
          simp only [Int.toNat_natCast]
          rw [HE.out, ← yruns_eq, HXO.out])
        have HTX := Aside0.mk (HREL.out.next mo)
        have HKX := Aside0.mk (rel_kept HREL.out mo)
        obtain ⟨nn, hnn⟩ : ∃ nn, rNext X1 mo = nn := ⟨_, rfl⟩
        have HXN := Aside0.mk hnn
        have HYN := Aside0.mk (HYX.out.trans hnn)
        have HTNn := Aside0.mk (HTX.out.trans hnn)
        clear hnn
        have hends : i < l.length ∧ ¬ i < 120 ∨ ¬ i < l.length := by omega
        clear hgo
        rcases hends with ⟨e1, e2⟩ | e1
        all_goals
          go_wp2_with (first
            | (go_at_call 12; refine (thr_next HT.out HTNn.out).mono ?_; rintro e w6 ⟨rfl, hb⟩; have n1 := Aside0.mk (below_step HL.out hb); have n2 := Aside0.mk (HT.out.below hb); clear HL HT; have HL := n1; have HT := n2; clear n1 n2; clear hb)
            | (go_at_call 18; (with_reducible refine (thr_rnext HT.out HXN.out).mono ?_); rintro e w6 ⟨rfl, hb⟩; have n1 := Aside0.mk (below_step HL.out hb); have n2 := Aside0.mk (HT.out.below hb); clear HL HT; have HL := n1; have HT := n2; clear n1 n2; (try (have HV2' := Aside0.mk (Kd.R_below HV2.out hb))); clear hb)
            | (go_at_call 18; (with_reducible refine (thr_ynext HT.out HYN.out).mono ?_); rintro e w6 ⟨rfl, hb⟩; have n1 := Aside0.mk (below_step HL.out hb); have n2 := Aside0.mk (HT.out.below hb); clear HL HT; have HL := n1; have HT := n2; clear n1 n2; clear hb)
            | (go_at_call 20; refine (Kept_calls _ _ T1 mo _ HT.out.tab HT.out.fine).mono ?_; rintro e w6 ⟨v1, rfl, hr, hb⟩; have HV1 := Aside0.mk hr; have n1 := Aside0.mk (below_step HL.out hb); have n2 := Aside0.mk (HT.out.below hb); clear HL HT; have HL := n1; have HT := n2; clear n1 n2; clear hr hb)
            | (go_at_call 21; refine (rKept_calls _ _ _ X1 mo _ HT.out.ref HT.out.rfine).mono ?_; rintro e w6 ⟨v2, rfl, hr, hb⟩; rw [← HKX.out] at hr; have HV2 := Aside0.mk hr; have n3 := Aside0.mk (Kd.R_below HV1.out hb); clear HV1; have HV1 := n3; clear n3; have n1 := Aside0.mk (below_step HL.out hb); have n2 := Aside0.mk (HT.out.below hb); clear HL HT; have HL := n1; have HT := n2; clear n1 n2; clear hr hb)
            | (go_at_call 19; refine (same_calls v1 v2 _ (kept_len HT.out.fine mo) _ HV1.out HV2.out).mono ?_; rintro e w6 ⟨rfl, hb⟩; have n1 := Aside0.mk (below_step HL.out hb); have n2 := Aside0.mk (HT.out.below hb); clear HL HT; have HL := n1; have HT := n2; clear n1 n2; clear hb))
          go_ret
          exact ⟨rfl, HL.out⟩

end Go.Proofs.Ytfmlamnkpoloaaa.Q

/- Arguments of whatever depth (slices of texts, of structs, structs of slices): what the row reads is a row of the printed kinds. -/
namespace Go.Proofs.Ytfmlamnkpoloaaa.Q
open Go.RowKit Go.Proofs.YtfmlamnkpoloaaaW.PrintWords Go.Proofs.YtfmlamnkpoloaaaW.PrintLast Go.Proofs.YtfmlamnkpoloaaaW.PrintMore
set_option linter.unusedVariables false
set_option linter.unusedSimpArgs false

section
variable {H : Type} (enc : TypeId × Value → H) (P : Program) (W : World)

/-- What is read at type t is of the kind d, and good. -/
def Opens {α : Type} (t : TypeId) (d : Kd α) (G : α → Prop) : Prop :=
  P.cellsOf t = d.sz ∧ ∀ (fuel : Nat) (cs : List Value) (x : DataW H × List MemPlace), DataW.trod enc P W 0 (fun _ => true) true fuel t cs = some x → (∀ n ∈ x.1.weights P t, n ≤ reachBytes) → ∃ y, d.K W y cs ∧ G y
/-- What is read at types in line is of the kind d, and good. -/
def OpensSeq {α : Type} (ts : List TypeId) (d : Kd α) (G : α → Prop) : Prop :=
  (ts.map P.cellsOf).sum = d.sz ∧ ∀ (fuel : Nat) (cs : List Value) (xs : List (DataW H × List MemPlace)), cs.length = (ts.map P.cellsOf).sum → xs.length = ts.length →
    (∀ i t, ts[i]? = some t → DataW.trod enc P W 0 (fun _ => true) true fuel t ((cs.drop ((ts.take i).map P.cellsOf).sum).take (P.cellsOf t)) = xs[i]?) →
    (∀ n ∈ DataW.weightsEach P ts (xs.map (·.1)), n ≤ reachBytes) → ∃ y, d.K W y cs ∧ G y
variable {enc P W}

theorem Opens.int {t : TypeId} {k : IntKind} (ht : P.underlying t = some (.int k)) (hc : P.cellsOf t = 1) : Opens enc P W t (Kd.int k) (fun n => (Lit.int k n).wf = true) := by
  refine ⟨hc, fun fuel cs x h _ => ?_⟩
  obtain ⟨n, rfl, _, hw⟩ := DataW.trod_int ht h
  exact ⟨n, rfl, hw⟩
theorem Opens.bool {t : TypeId} (ht : P.underlying t = some .bool) (hc : P.cellsOf t = 1) : Opens enc P W t Kd.bool (fun _ => True) := by
  refine ⟨hc, fun fuel cs x h _ => ?_⟩
  cases fuel with
  | zero => simp [DataW.trod] at h
  | succ n =>
    unfold DataW.trod at h
    rw [ht] at h
    split at h <;> first | exact ⟨_, rfl, trivial⟩ | simp_all
theorem Opens.string {t : TypeId} (ht : P.underlying t = some .string) (hc : P.cellsOf t = 1) : Opens enc P W t Kd.string (fun s => s.size ≤ 140737488351232) := by
  refine ⟨hc, fun fuel cs x h hw => ?_⟩
  obtain ⟨s, rfl, rfl, _⟩ := DataW.trod_string ht h
  refine ⟨s, rfl, ?_⟩
  have := hw s.data.toList.length (by simp [DataW.weights])
  simpa [reachBytes, Array.length_toList] using this
theorem weights_all {e : TypeId} {ds : List (DataW H)} {d : DataW H} (h : d ∈ ds) : ∀ n ∈ d.weights P e, n ∈ DataW.weightsAll P e ds := by
  induction ds with
  | nil => cases h
  | cons d' ds ih =>
    intro n hn
    rw [DataW.weightsAll, List.mem_append]
    rcases List.mem_cons.1 h with rfl | h
    · exact .inl hn
    · exact .inr (ih h n hn)
open Classical in
theorem choose_list {α : Type} (z : α) (R : Nat → α → Prop) (n : Nat) (h : ∀ i, i < n → ∃ y, R i y) : ∃ l : List α, l.length = n ∧ ∀ i (hi : i < n) (hl : i < l.length), R i l[i] := by
  refine ⟨(List.range n).map fun i => if h' : ∃ y, R i y then Classical.choose h' else z, by simp, fun i hi hl => ?_⟩
  have he := h i hi
  simp only [List.getElem_map, List.getElem_range, dif_pos he]
  exact Classical.choose_spec he
theorem Opens.slice {α : Type} (z : α) {t e : TypeId} {d : Kd α} {G : α → Prop} (bytes : Nat) (ht : P.underlying t = some (.slice e)) (hc : P.cellsOf t = 1) (hb : P.bytesOf e = bytes) (h : Opens enc P W e d G) :
    Opens enc P W t (Kd.slice e d) (fun xs => xs.length * bytes ≤ 140737488351232 ∧ xs.length ≤ 9223372036854775807 ∧ ∀ x ∈ xs, G x) := by
  refine ⟨hc, fun fuel cs x hx hw => ?_⟩
  rcases Go.Deep.open_slice ht hx with ⟨rfl, rfl⟩ | ⟨a, len, cap, m, n, D, Pl, rfl, _, hlc, hcm, hm, rfl, hel⟩
  · exact ⟨[], ⟨none, 0, rfl, Nat.le_refl _, Kd.C_nil d W⟩, by simp, by simp, fun x hx => by cases hx⟩
  · have hlm : len ≤ m := by rw [hm]; split <;> omega
    have hwt : DataW.weights P t (.slice ((List.range len).map D) ((List.range (m - len)).map fun j => D (len + j))) =
        (((List.range len).map D).length + ((List.range (m - len)).map fun j => D (len + j)).length) * P.bytesOf e :: (DataW.weightsAll P e ((List.range len).map D) ++ DataW.weightsAll P e ((List.range (m - len)).map fun j => D (len + j))) := by
      rw [DataW.weights]
      simp only [ht]
    have hel' : ∀ i, i < len → ∃ y, (∃ cs', W.cells? 0 (a.add (i * P.cellsOf e)) (P.cellsOf e) = some cs' ∧ d.K W y cs') ∧ G y := by
      intro i hi
      obtain ⟨cs', h1, h2⟩ := hel i (by omega)
      obtain ⟨y, hy, hg⟩ := h.2 n cs' _ h2 (fun n hn => hw n (by
        rw [hwt]
        exact List.mem_cons_of_mem _ (List.mem_append_left _ (weights_all (List.mem_map.2 ⟨i, List.mem_range.2 hi, rfl⟩) n hn))))
      exact ⟨y, ⟨cs', h1, hy⟩, hg⟩
    obtain ⟨l, hll, hl⟩ := choose_list z _ len hel'
    have hb1 := hw _ (by rw [hwt]; exact List.mem_cons_self)
    have hle : len * bytes ≤ 140737488351232 := by
      simp only [List.length_map, List.length_range, hb, reachBytes] at hb1
      exact Nat.le_trans (Nat.mul_le_mul_right _ (by omega)) hb1
    have hmx : len ≤ 9223372036854775807 := by
      simp only [maxLen] at hcm
      omega
    refine ⟨l, ⟨some a, cap, by rw [hll], by omega, by rw [hll], by omega, fun _ => ⟨a, rfl, fun j p hj => ?_⟩⟩, by rw [hll]; exact hle, by omega, fun x hx => ?_⟩
    · obtain ⟨hjl, rfl⟩ := List.getElem?_eq_some_iff.1 hj
      obtain ⟨⟨cs', h1, hK⟩, _⟩ := hl j (by omega) hjl
      obtain ⟨_, hcl, hcell⟩ := World.cells?_some h1
      refine ⟨cs', by rw [hcl, h.1], hK, fun i u hu => ?_⟩
      have hi : i < P.cellsOf e := by
        have := (List.getElem?_eq_some_iff.1 hu).1
        omega
      have := hcell i hi
      rw [hu, add_add, h.1] at this
      exact this
    · obtain ⟨j, hj, rfl⟩ := List.getElem_of_mem hx
      exact (hl j (by omega) hj).2
theorem OpensSeq.one {α : Type} {t : TypeId} {d : Kd α} {G : α → Prop} (h : Opens enc P W t d G) : OpensSeq enc P W [t] d G := by
  refine ⟨by simp [h.1], fun fuel cs xs hl hx hr hw => ?_⟩
  have hr0 := hr 0 t rfl
  simp only [List.take_zero, List.map_nil, List.sum_nil, List.drop_zero] at hr0
  have hc : cs.length = P.cellsOf t := by simpa using hl
  rw [List.take_of_length_le (by omega)] at hr0
  match xs, hx with
  | [x], _ =>
    exact h.2 fuel cs x hr0 (fun n hn => hw n (by simp [DataW.weightsEach, hn]))
theorem OpensSeq.cons {α β : Type} {t : TypeId} {ts : List TypeId} {d : Kd α} {d' : Kd β} {G : α → Prop} {G' : β → Prop} (h : Opens enc P W t d G) (h' : OpensSeq enc P W ts d' G') :
    OpensSeq enc P W (t :: ts) (Kd.pair d d') (fun y => G y.1 ∧ G' y.2) := by
  refine ⟨by simp [Kd.pair, h.1, h'.1], fun fuel cs xs hl hx hr hw => ?_⟩
  match xs, hx with
  | x :: xs, hx =>
    have hr0 := hr 0 t rfl
    simp only [List.take_zero, List.map_nil, List.sum_nil, List.drop_zero] at hr0
    obtain ⟨y, hy, hg⟩ := h.2 fuel _ x hr0 (fun n hn => hw n (by simp [DataW.weightsEach, hn]))
    have hl2 : (cs.drop (P.cellsOf t)).length = (ts.map P.cellsOf).sum := by
      rw [List.length_drop, hl, List.map_cons, List.sum_cons]
      omega
    obtain ⟨y', hy', hg'⟩ := h'.2 fuel (cs.drop (P.cellsOf t)) xs hl2 (by simpa using hx) (fun i t' ht' => by
      have := hr (i + 1) t' (by simpa using ht')
      simp only [List.take_succ_cons, List.map_cons, List.sum_cons, List.getElem?_cons_succ] at this
      rw [List.drop_drop]
      exact this) (fun n hn => hw n (by simp only [List.map_cons, DataW.weightsEach, List.mem_append]; exact .inr hn))
    exact ⟨(y, y'), ⟨_, _, (List.take_append_drop (P.cellsOf t) cs).symm, hy, hy'⟩, hg, hg'⟩
theorem Opens.struct {α β : Type} {t : TypeId} {fs : Array Field} (ts : List TypeId) {d : Kd α} {G : α → Prop} (f : β → α) (g : α → β) (hfg : ∀ a, f (g a) = a) (ht : P.underlying t = some (.struct fs)) (hts : fs.toList.map (·.type) = ts)
    (hoff0 : fs.toList.map (·.offset) = (List.range fs.size).map fun i => ((ts.take i).map P.cellsOf).sum) (hc : P.cellsOf t = (ts.map P.cellsOf).sum) (h : OpensSeq enc P W ts d G) : Opens enc P W t (Kd.iso d f) (fun y => G (f y)) := by
  have hoff : ∀ i fd, fs[i]? = some fd → fd.offset = ((ts.take i).map P.cellsOf).sum := by
    intro i fd hi
    have h1 : (fs.toList.map (·.offset))[i]? = some fd.offset := by rw [List.getElem?_map, Array.getElem?_toList, hi]; rfl
    have hlt : i < fs.size := (Array.getElem?_eq_some_iff.1 hi).1
    rw [hoff0, List.getElem?_map, List.getElem?_range hlt] at h1
    simpa using h1.symm
  refine ⟨hc.trans h.1, fun fuel cs x hx hw => ?_⟩
  obtain ⟨xs, n, rfl, rfl, hcl, hxl, hfd⟩ := DataW.trod_struct ht hx
  have hwt : DataW.weights P t (.agg (xs.map (·.1)) : DataW H) = DataW.weightsEach P ts (xs.map (·.1)) := by
    rw [DataW.weights]
    simp only [ht, hts]
  obtain ⟨y, hy, hg⟩ := h.2 n cs xs (hcl.trans hc) (by rw [hxl, ← hts]; simp) (fun i t' ht' => by
    rw [← hts, List.getElem?_map, Option.map_eq_some_iff] at ht'
    obtain ⟨fd, hfi, rfl⟩ := ht'
    rw [Array.getElem?_toList] at hfi
    rw [← hoff i fd hfi]
    exact hfd i fd hfi) (fun n hn => hw n (by rw [hwt]; exact hn))
  exact ⟨g y, by show d.K W (f (g y)) cs; rw [hfg]; exact hy, by show G (f (g y)); rw [hfg]; exact hg⟩
/-- The weights of all arguments, and of one. -/
theorem weights_each {ts : List TypeId} : ∀ {ds : List (DataW H)} {j : Nat} {t : TypeId} {d : DataW H}, ts[j]? = some t → ds[j]? = some d → ∀ n ∈ d.weights P t, n ∈ DataW.weightsEach P ts ds := by
  induction ts with
  | nil => intro ds j t d h; simp at h
  | cons t' ts ih =>
    intro ds j t d h h' n hn
    cases ds with
    | nil => simp at h'
    | cons d' ds =>
      rw [DataW.weightsEach, List.mem_append]
      cases j with
      | zero =>
        simp only [List.getElem?_cons_zero, Option.some.injEq] at h h'
        subst h h'
        exact .inl hn
      | succ j => exact .inr (ih (by simpa using h) (by simpa using h') n hn)
end

end Go.Proofs.Ytfmlamnkpoloaaa.Q
