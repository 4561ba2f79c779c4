/- Texts of this session laid together (merge.py): YtfmlamnkpoloaaaQeq58, YtfmlamnkpoloaaaFAwake, YtfmlamnkpoloaaaGOnce0, YtfmlamnkpoloaaaGOnce, YtfmlamnkpoloaaaHOpen. -/
import Derived.ChangeArms
import Derived.Deep.Slices
import Derived.SizedLaws
import Derived.Test.YtfmlamnkpoloaaaTDedupOnceb
-- By px.py, a program of this session that drives the kit's printer: laid out of the translation; Lean checks it.
namespace Go.Proofs.Ytfmlamnkpoloaaa.Q
open Go.RowKit Go.Proofs.YtfmlamnkpoloaaaW.PrintWords Go.Proofs.YtfmlamnkpoloaaaW.PrintLast Go.Proofs.YtfmlamnkpoloaaaW.PrintMore
attribute [local go_sem] max2_int min2_int max_two min_two max_three min_three max_four min_four   -- for this text's walks alone
set_option linter.unusedVariables false
set_option linter.unusedSimpArgs false

theorem eqA58 (d : Nat) (w : World) (x0 y0 : Int) (x1 y1 : Int) :
    (Op.equalIn (d + 2) 58 (.agg #[.int .i64 x0, .int .i64 x1]) (.agg #[.int .i64 y0, .int .i64 y1])).run Try.prog w = .ok (x0 == y0 && (x1 == y1)) w := by
  refine eqA_of Try.underlying58 (by kernel_rfl) ?_
  refine eqf_cons (by rfl) (by go_simp; rfl) (by go_simp; rfl) (by go_simp) ?_
  exact eqf_last (by rfl) (by go_simp; rfl) (by go_simp; rfl) (by go_simp)
end Go.Proofs.Ytfmlamnkpoloaaa.Q

/- The contract of awake. -/
namespace Go.Proofs.Ytfmlamnkpoloaaa.Q
open Go.RowKit Go.Proofs.YtfmlamnkpoloaaaW.PrintWords Go.Proofs.YtfmlamnkpoloaaaW.PrintLast Go.Proofs.YtfmlamnkpoloaaaW.PrintMore
attribute [local go_sem high] eqA58
set_option linter.unusedVariables false
set_option linter.unusedSimpArgs false

/-- A table of the call's own. -/
structure Own (w0 w : World) (t : Nat) (T : Tb) : Prop where
  tab : TabAt (fun k => k ≠ t) w t T
  fine : ∀ m, m < 6 → Fine (T m)
  low : Below w0.heap.size w0 w
  ge : w0.heap.size ≤ t
section
variable {w0 w w' : World} {t : Nat} {T T' : Tb} {n seq code r : Int}
theorem Own.step (h : Own w0 w t T) (ht : TabAt (fun k => k ≠ t) w' t T') (hF : ∀ m, m < 6 → Fine (T' m)) (hc : Chg (fun k => k = t) w w') : Own w0 w' t T' := ⟨ht, hF, hc.below h.low h.low.size (fun k hk => by subst hk; exact h.ge), h.ge⟩
theorem Own.below (h : Own w0 w t T) (hb : Below w.heap.size w w') : Own w0 w' t T := ⟨h.tab.chg (Chg.of_below hb (fun _ => False)) (fun h => h) (fun _ _ h => h), h.fine, Below.trans h.low (hb.mono h.low.size), h.ge⟩
theorem own_put (h : Own w0 w t T) (hr : dPut T n seq code = (r, T')) (hF : ∀ m, m < 6 → Fine (T' m)) : Calls Try.prog 13 #[.pointer (some ⟨t, 0, none⟩), .int .i64 n, .int .i64 seq, .int .i64 code] w fun e w' => e = .returned (.int .i64 r) ∧ Own w0 w' t T' :=
  (Put_calls _ t T n seq code w h.tab h.fine (fun _ h => h) (fun k hk => by have := h.tab.lt; omega)).mono fun e w' he => by
    obtain ⟨h1, h2, h3⟩ := he
    rw [hr] at h1 h2
    exact ⟨h1, h.step h2 hF h3⟩
theorem own_got (h : Own w0 w t T) (hr : dGot T n seq = (r, T')) (hF : ∀ m, m < 6 → Fine (T' m)) : Calls Try.prog 11 #[.pointer (some ⟨t, 0, none⟩), .int .i64 n, .int .i64 seq] w fun e w' => e = .returned (.int .i64 r) ∧ Own w0 w' t T' :=
  (Got_calls _ t T n seq w h.tab h.fine (fun _ h => h) (fun k hk => by have := h.tab.lt; omega)).mono fun e w' he => by
    obtain ⟨h1, h2, h3⟩ := he
    rw [hr] at h1 h2
    exact ⟨h1, h.step h2 hF h3⟩
theorem own_drew (h : Own w0 w t T) (k : Nat) : Own w0 (w.drewN k) t T := h.below (pw_below_drewN (Below.refl _ _) k)
theorem own_next (h : Own w0 w t T) (hr : dNext T n = r) : Calls Try.prog 12 #[.pointer (some ⟨t, 0, none⟩), .int .i64 n] w fun e w' => e = .returned (.int .i64 r) ∧ Below w.heap.size w w' :=
  (Next_calls _ t T n w h.tab h.fine).mono fun e w' he => by
    obtain ⟨h1, k, rfl⟩ := he
    rw [hr] at h1
    exact ⟨h1, pw_below_drewN (Below.refl _ _) k⟩
theorem own_first (h : Own w0 w t T) (hr : dFirst T n = r) : Calls Try.prog 23 #[.pointer (some ⟨t, 0, none⟩), .int .i64 n] w fun e w' => e = .returned (.int .i64 r) ∧ Below w.heap.size w w' :=
  (First_calls _ t T n w h.tab h.fine).mono fun e w' he => by
    obtain ⟨h1, k, rfl⟩ := he
    rw [hr] at h1
    exact ⟨h1, pw_below_drewN (Below.refl _ _) k⟩
theorem own_code {a b : Int} (h : Own w0 w t T) (hr : dCode T n seq = (a, b)) : Calls Try.prog 14 #[.pointer (some ⟨t, 0, none⟩), .int .i64 n, .int .i64 seq] w fun e w' => e = .returned (.tuple #[.int .i64 a, .int .i64 b]) ∧ Below w.heap.size w w' :=
  (Code_calls _ t T n seq w h.tab h.fine).mono fun e w' he => by
    obtain ⟨h1, k, rfl⟩ := he
    rw [hr] at h1
    exact ⟨h1, pw_below_drewN (Below.refl _ _) k⟩
theorem own_kept {x : S58} (h : Own w0 w t T) (hr : dKept T n = [x]) : Calls Try.prog 20 #[.pointer (some ⟨t, 0, none⟩), .int .i64 n] w fun e w' => ∃ ad c, e = .returned (.slice (some ad) 1 c) ∧ 1 ≤ c ∧ w'.cell? ad = some (.int .i64 x.f0) ∧ w'.cell? ⟨ad.block, ad.off + 1, none⟩ = some (.int .i64 x.f1) ∧ Below w.heap.size w w' :=
  (Kept_calls _ t T n w h.tab h.fine).mono fun e w' he => by
    obtain ⟨v, h1, h2, h3⟩ := he
    rw [hr] at h2
    obtain ⟨A, c, rfl, hlc, hC⟩ := Kd.R_reads h2
    obtain ⟨ad, rfl, y0, y1⟩ := at_T58 hC 0 (by decide) (by simp)
    have e0 : ad.add ((0 : Int).toNat * 2) = ad := by simp [Addr.add]
    rw [e0] at y0 y1
    exact ⟨ad, c, h1, hlc, y0, y1, h3⟩
end
def Ta : Tb := T0.upd 1 ⟨0, [0]⟩
def Tc : Tb := T0.upd 1 ⟨0, [0, 16]⟩
def Te : Tb := T0.upd 1 ⟨1, [16]⟩
theorem fine0 : Fine ⟨0, []⟩ := by unfold Fine; decide
theorem upd_fine (c : Cl) (hc : Fine c) : ∀ m, m < 6 → Fine (T0.upd 1 c m) := by
  intro m _
  unfold Tb.upd
  split
  · exact hc
  · exact fine0
theorem upd_upd (T : Tb) (n : Nat) (c c' : Cl) : (T.upd n c).upd n c' = T.upd n c' := by
  funext m
  unfold Tb.upd
  by_cases e : m = n <;> simp [e]
theorem f0 : ∀ m, m < 6 → Fine (T0 m) := fun m _ => fine0
theorem fa : ∀ m, m < 6 → Fine (Ta m) := upd_fine _ (by unfold Fine; decide)
theorem fc : ∀ m, m < 6 → Fine (Tc m) := upd_fine _ (by unfold Fine; decide)
theorem fe : ∀ m, m < 6 → Fine (Te m) := upd_fine _ (by unfold Fine; decide)
theorem p1 : dPut T0 1 1 0 = (0, Ta) := rfl
theorem p2 : dPut Ta 1 2 16 = (0, Tc) := by
  have e : dPut Ta 1 2 16 = (0, Ta.upd 1 ⟨0, [0, 16]⟩) := rfl
  rw [e, Ta, upd_upd]
  rfl
theorem p3 : dPut Tc 1 2 0 = (9, Tc) := rfl
theorem p4 : dGot Tc 1 1 = (0, Te) := by
  have e : dGot Tc 1 1 = (0, Tc.upd 1 ⟨1, [16]⟩) := rfl
  rw [e, Tc, upd_upd]
  rfl
set_option maxHeartbeats 4000000 in
set_option maxRecDepth 100000 in
theorem awake_calls (w : World) : Calls Try.prog 9 #[] w fun e w' => e = .returned (.bool true) ∧ Below w.heap.size w w' := by
  go_enter Try.func9, Try.ntmps9
  go_wp2_with (first
    | (go_at_call 8; refine (new_calls _).mono ?_; rintro e w1 ⟨rfl, h1, b1, -⟩; have HO := Aside0.mk (show Own w w1 w.heap.size T0 from ⟨h1 _, f0, b1, Nat.le_refl _⟩); clear h1 b1)
    | (go_at_call 13; (with_reducible refine (own_put (n := 1) (seq := 1) (code := 0) HO.out p1 fa).mono ?_); rintro e w2 ⟨rfl, h⟩; have HO := Aside0.mk h; clear h)
    | (go_at_call 13; (with_reducible refine (own_put (n := 1) (seq := 2) (code := 16) HO.out p2 fc).mono ?_); rintro e w2 ⟨rfl, h⟩; have HO := Aside0.mk h; clear h)
    | (go_at_call 13; (with_reducible refine (own_put (n := 1) (seq := 2) (code := 0) HO.out p3 fc).mono ?_); rintro e w2 ⟨rfl, h⟩; have HO := Aside0.mk h; clear h)
    | (go_at_call 11; (with_reducible refine (own_got (n := 1) (seq := 1) HO.out p4 fe).mono ?_); rintro e w2 ⟨rfl, h⟩; have HO := Aside0.mk h; clear h)
    | (go_at_call 14; (with_reducible refine (own_code (n := 1) (seq := 1) (a := 0) (b := 13) HO.out rfl).mono ?_); rintro e w2 ⟨rfl, hb⟩; have HO := Aside0.mk (HO.out.below hb); clear hb)
    | (go_at_call 20; (with_reducible refine (own_kept (n := 1) (x := ⟨2, 16⟩) HO.out rfl).mono ?_); rintro e w2 ⟨ad, c, rfl, hlc, y0, y1, hb⟩; have HO := Aside0.mk (HO.out.below hb); clear hb)
    | (go_at_call 12; (with_reducible refine (own_next (n := 1) (r := 3) HO.out rfl).mono ?_); rintro e w3 ⟨rfl, hb⟩; have HO := Aside0.mk (HO.out.below hb); clear hb)
    | (go_at_call 23; (with_reducible refine (own_first (n := 1) (r := 2) HO.out rfl).mono ?_); rintro e w3 ⟨rfl, hb⟩; have HO := Aside0.mk (HO.out.below hb); clear hb)
    | (go_at_call 12; (with_reducible refine (own_next (n := 0) (r := 1) HO.out rfl).mono ?_); rintro e w3 ⟨rfl, hb⟩; have HO := Aside0.mk (HO.out.below hb); clear hb))
  go_ret
  exact ⟨rfl, HO.out.low⟩

end Go.Proofs.Ytfmlamnkpoloaaa.Q

/- The law DedupOnce: each command is decided once, in the order of numbers. -/
namespace Go.Proofs.Ytfmlamnkpoloaaa.Q
open Go.RowKit Go.Proofs.YtfmlamnkpoloaaaW.PrintWords Go.Proofs.YtfmlamnkpoloaaaW.PrintLast Go.Proofs.YtfmlamnkpoloaaaW.PrintMore
set_option linter.unusedVariables false
set_option linter.unusedSimpArgs false

/-- The table and the row of the last numbers. -/
structure Onc (w0 : World) (t nb B : Nat) (w : World) (T : Tb) (nx : Nat → Int) : Prop where
  tab : TabAt (fun k => k ≠ t ∧ k ≠ nb) w t T
  row : ∃ cs : Array Value, w.heap[nb]? = some (.cells cs 3 (0, 0)) ∧ cs.size = 6 ∧ ∀ m, m < 6 → cs[m]? = some (.int .i64 (nx m))
  fine : ∀ m, m < 6 → 0 ≤ (T m).got ∧ (T m).got + (T m).codes.length ≤ B
  room : B ≤ 100000
  ne : t ≠ nb
  low : Below w0.heap.size w0 w
  ge : w0.heap.size ≤ t ∧ w0.heap.size ≤ nb
section
variable {w0 w w' : World} {t nb B : Nat} {T : Tb} {nx : Nat → Int} {n seq code r : Int}
theorem Onc.lt (h : Onc w0 t nb B w T nx) : t < w.heap.size ∧ nb < w.heap.size := by
  obtain ⟨cs, hb, -⟩ := h.row
  exact ⟨h.tab.lt, blk_lt hb⟩
theorem Onc.fines (h : Onc w0 t nb B w T nx) : ∀ m, m < 6 → Fine (T m) := fun m hm => by
  have h1 := h.fine m hm
  have h2 := h.room
  exact ⟨h1.1, by omega, by omega⟩
theorem Onc.chg (h : Onc w0 t nb B w T nx) (hc : Chg (fun _ => False) w w') : Onc w0 t nb B w' T nx := by
  obtain ⟨cs, hb, hr⟩ := h.row
  exact ⟨h.tab.chg hc (fun h => h) (fun _ _ h => h), ⟨cs, (hc.keep nb (blk_lt hb) (fun h => h)).trans hb, hr⟩, h.fine, h.room, h.ne, below_step h.low hc.toBelow, h.ge⟩
theorem Onc.below (h : Onc w0 t nb B w T nx) (hb : Below w.heap.size w w') : Onc w0 t nb B w' T nx := h.chg (Chg.of_below hb _)
theorem Onc.more {B' : Nat} (h : Onc w0 t nb B w T nx) (hb : B ≤ B') (hb' : B' ≤ 100000) : Onc w0 t nb B' w T nx := ⟨h.tab, h.row, fun m hm => by have := h.fine m hm; omega, hb', h.ne, h.low, h.ge⟩
theorem Onc.cell (h : Onc w0 t nb B w T nx) {m : Nat} (hm : m < 6) : w.cell? ⟨nb, m, none⟩ = some (.int .i64 (nx m)) ∧ w.frozen? ⟨nb, m, none⟩ = false := by
  obtain ⟨cs, hb, hz, hr⟩ := h.row
  exact ⟨(blk_cell hb m).trans (hr m hm), blk_frozen hb m⟩
theorem Onc.store (h : Onc w0 t nb B w T nx) {m : Nat} (hm : m < 6) (v : Int) : Onc w0 t nb B (w.setCell ⟨nb, m, none⟩ (.int .i64 v)) T (fun k => if k = m then v else nx k) := by
  obtain ⟨cs, hb, hz, hr⟩ := h.row
  have hc : Chg (fun k => k = nb) w (w.setCell ⟨nb, m, none⟩ (.int .i64 v)) := Chg.set (S := fun k => k = nb) (p := ⟨nb, m, none⟩) (Chg.refl _ _) (.inl rfl) _
  refine ⟨h.tab.chg hc h.ne (fun k hk => hk.2), ⟨_, blk_set hb _ _, by simpa using hz, fun k hk => ?_⟩, h.fine, h.room, h.ne, hc.below h.low h.low.size (fun k hk => by subst hk; exact h.ge.2), h.ge⟩
  by_cases e : k = m
  · subst e
    rw [Array.getElem?_setIfInBounds_self_of_lt (by omega), if_pos rfl]
  · rw [Array.getElem?_setIfInBounds_ne (Ne.symm e), if_neg e]
    exact hr k hk
theorem Onc.step {T' : Tb} {B' : Nat} (h : Onc w0 t nb B w T nx) (ht : TabAt (fun k => k ≠ t ∧ k ≠ nb) w' t T') (hF : ∀ m, m < 6 → 0 ≤ (T' m).got ∧ (T' m).got + (T' m).codes.length ≤ (B' : Int)) (hB : B' ≤ 100000) (hc : Chg (fun k => k = t) w w') : Onc w0 t nb B' w' T' nx := by
  obtain ⟨cs, hb, hr⟩ := h.row
  exact ⟨ht, ⟨cs, (hc.keep nb (blk_lt hb) (Ne.symm h.ne)).trans hb, hr⟩, hF, hB, h.ne, hc.below h.low h.low.size (fun k hk => by subst hk; exact h.ge.1), h.ge⟩
theorem onc_put (h : Onc w0 t nb B w T nx) (hB : B + 1 ≤ 100000) : Calls Try.prog 13 #[.pointer (some ⟨t, 0, none⟩), .int .i64 n, .int .i64 seq, .int .i64 code] w fun e w' => e = .returned (.int .i64 (dPut T n seq code).1) ∧ Onc w0 t nb (B + 1) w' (dPut T n seq code).2 nx ∧ Chg (fun k => k = t) w w' :=
  (Put_calls _ t T n seq code w h.tab h.fines (fun _ h => h.1) (fun k hk => by have := h.lt; exact ⟨by omega, by omega⟩)).mono fun e w' he => by
    obtain ⟨h1, h2, h3⟩ := he
    exact ⟨h1, h.step h2 (dPut_fine n seq code h.fine) hB h3, h3⟩
theorem onc_put_is {T' : Tb} (h : Onc w0 t nb B w T nx) (hr : dPut T n seq code = (r, T')) (hB : B + 1 ≤ 100000) : Calls Try.prog 13 #[.pointer (some ⟨t, 0, none⟩), .int .i64 n, .int .i64 seq, .int .i64 code] w fun e w' => e = .returned (.int .i64 r) ∧ Onc w0 t nb (B + 1) w' T' nx ∧ Chg (fun k => k = t) w w' := by
  have h1 := onc_put (n := n) (seq := seq) (code := code) h hB
  rw [hr] at h1
  exact h1
theorem onc_got (h : Onc w0 t nb B w T nx) : Calls Try.prog 11 #[.pointer (some ⟨t, 0, none⟩), .int .i64 n, .int .i64 seq] w fun e w' => e = .returned (.int .i64 (dGot T n seq).1) ∧ Onc w0 t nb B w' (dGot T n seq).2 nx ∧ Chg (fun k => k = t) w w' :=
  (Got_calls _ t T n seq w h.tab h.fines (fun _ h => h.1) (fun k hk => by have := h.lt; exact ⟨by omega, by omega⟩)).mono fun e w' he => by
    obtain ⟨h1, h2, h3⟩ := he
    exact ⟨h1, h.step h2 (dGot_fine n seq h.fine) h.room h3, h3⟩
theorem onc_next (h : Onc w0 t nb B w T nx) : Calls Try.prog 12 #[.pointer (some ⟨t, 0, none⟩), .int .i64 n] w fun e w' => e = .returned (.int .i64 (dNext T n)) ∧ Below w.heap.size w w' :=
  (Next_calls _ t T n w h.tab h.fines).mono fun e w' he => by
    obtain ⟨h1, k, rfl⟩ := he
    exact ⟨h1, pw_below_drewN (Below.refl _ _) k⟩
theorem onc_code (h : Onc w0 t nb B w T nx) {a b : Int} (hr : dCode T n seq = (a, b)) : Calls Try.prog 14 #[.pointer (some ⟨t, 0, none⟩), .int .i64 n, .int .i64 seq] w fun e w' => e = .returned (.tuple #[.int .i64 a, .int .i64 b]) ∧ Below w.heap.size w w' :=
  (Code_calls _ t T n seq w h.tab h.fines).mono fun e w' he => by
    obtain ⟨h1, k, rfl⟩ := he
    rw [hr] at h1
    exact ⟨h1, pw_below_drewN (Below.refl _ _) k⟩
end
/-- The last numbers. -/
def Lasts (T : Tb) (nx : Nat → Int) : Prop := ∀ m, m < 6 → nx m = (T m).got + (T m).codes.length
theorem lasts_got {T : Tb} {nx : Nat → Int} (h : Lasts T nx) (n upto : Int) : Lasts (dGot T n upto).2 nx := by
  intro m hm
  rw [h m hm]
  unfold dGot
  split
  · split
    · rfl
    · split
      · rename_i h1 h2 h3
        dsimp only
        unfold Tb.upd
        by_cases e : m = n.toNat
        · rw [if_pos e]
          rw [← e] at h2 h3 ⊢
          unfold nextOf at h2
          simp only [List.length_drop]
          omega
        · rw [if_neg e]
      · rfl
  · rfl
theorem put_zero {T : Tb} {m : Nat} (hm : m < 6) {seq code : Int} (h : (dPut T m seq code).1 = 0) : seq = nextOf (T m) ∧ ¬ (code < 0 ∨ 63 < code) ∧ (dPut T m seq code).2 = T.upd m ⟨(T m).got, (T m).codes ++ [code]⟩ := by
  have hn : isC (m : Int) := by unfold isC; omega
  unfold dPut at h ⊢
  rw [if_pos hn] at h ⊢
  rw [Int.toNat_natCast] at h ⊢
  by_cases c1 : code < 0 ∨ 63 < code
  · rw [if_pos c1] at h; cases h
  · rw [if_neg c1] at h ⊢
    by_cases c2 : 1 ≤ seq ∧ seq < nextOf (T m)
    · rw [if_pos c2] at h; cases h
    · rw [if_neg c2] at h ⊢
      by_cases c3 : seq ≠ nextOf (T m)
      · rw [if_pos c3] at h; cases h
      · rw [if_neg c3] at h ⊢
        by_cases c4 : 32 ≤ ((T m).codes.length : Int)
        · rw [if_pos c4] at h; cases h
        · rw [if_neg c4]
          exact ⟨by omega, c1, rfl⟩
theorem put_other {T : Tb} {m : Nat} (hm : m < 6) {seq code : Int} (h : (dPut T m seq code).1 ≠ 0) : (dPut T m seq code).2 = T := by
  have hn : isC (m : Int) := by unfold isC; omega
  unfold dPut at h ⊢
  rw [if_pos hn] at h ⊢
  repeat (first | rfl | exact absurd rfl h | (split at h <;> split) | (rename_i q1 q2; exact absurd q1 q2) | (rename_i q1 q2; exact absurd q2 q1))
theorem upd_at {T : Tb} {m : Nat} {c : Cl} : (T.upd m c) m = c := by unfold Tb.upd; rw [if_pos rfl]
theorem code_after {T : Tb} {m : Nat} (hm : m < 6) (code : Int) (h0 : 0 ≤ (T m).got) : dCode (T.upd m ⟨(T m).got, (T m).codes ++ [code]⟩) m (nextOf (T m)) = (code, 0) := by
  have hn : isC (m : Int) := by unfold isC; omega
  unfold dCode
  rw [if_pos hn, Int.toNat_natCast, upd_at]
  have e : nextOf ⟨(T m).got, (T m).codes ++ [code]⟩ = nextOf (T m) + 1 := by unfold nextOf; simp; omega
  rw [e, if_neg (by unfold nextOf; omega), if_neg (by unfold nextOf; dsimp only; omega)]
  have e2 : (nextOf (T m) - (T m).got - 1).toNat = (T m).codes.length := by unfold nextOf; omega
  simp only [rd, e2]
  simp
theorem again_after {T : Tb} {m : Nat} (hm : m < 6) (code : Int) (h0 : 0 ≤ (T m).got) : dPut (T.upd m ⟨(T m).got, (T m).codes ++ [code]⟩) m (nextOf (T m)) 0 = (9, T.upd m ⟨(T m).got, (T m).codes ++ [code]⟩) := by
  have hn : isC (m : Int) := by unfold isC; omega
  unfold dPut
  rw [if_pos hn, Int.toNat_natCast, upd_at, if_neg (by omega)]
  have e : nextOf ⟨(T m).got, (T m).codes ++ [code]⟩ = nextOf (T m) + 1 := by unfold nextOf; simp; omega
  rw [e, if_pos (by unfold nextOf; omega)]

theorem lasts_after {T : Tb} {nx : Nat → Int} (h : Lasts T nx) {m : Nat} (code sn : Int) (hs : sn = nextOf (T m)) : Lasts (T.upd m ⟨(T m).got, (T m).codes ++ [code]⟩) (fun k => if k = m then sn else nx k) := by
  intro k hk
  dsimp only
  unfold Tb.upd
  by_cases e : k = m
  · rw [if_pos e, if_pos e, hs]
    unfold nextOf
    simp
    omega
  · rw [if_neg e, if_neg e]
    exact h k hk

end Go.Proofs.Ytfmlamnkpoloaaa.Q

/- The law DedupOnce: each command is decided once, in the order of numbers. -/
namespace Go.Proofs.Ytfmlamnkpoloaaa.Q
open Go.RowKit Go.Proofs.YtfmlamnkpoloaaaW.PrintWords Go.Proofs.YtfmlamnkpoloaaaW.PrintLast Go.Proofs.YtfmlamnkpoloaaaW.PrintMore
set_option linter.unusedVariables false
set_option linter.unusedSimpArgs false

theorem make_ints (w : World) : (Instr.makeSlice 26 (.int .i64 6) (.int .i64 6)).run Try.prog w = .ok (.slice (some ⟨w.heap.size, 0, none⟩) 6 6) (w.alloc (.cells #[.int .i64 0, .int .i64 0, .int .i64 0, .int .i64 0, .int .i64 0, .int .i64 0] 3)) := by kernel_rfl
theorem Onc.away {w0 w : World} {t nb B : Nat} {T : Tb} {nx : Nat → Int} (h : Onc w0 t nb B w T nx) {g : Nat} (hg : w.heap.size ≤ g) : ¬ (g = t ∨ g = nb) := by
  have := h.lt
  omega
theorem onc_start {w w1 w2 : World} (h1 : ∀ ok, TabAt ok w1 w.heap.size T0) (b1 : Below w.heap.size w w1) (b2 : Below w1.heap.size w1 w2) : Onc w w.heap.size w2.heap.size 0 (w2.alloc (.cells #[.int .i64 0, .int .i64 0, .int .i64 0, .int .i64 0, .int .i64 0, .int .i64 0] 3)) T0 (fun _ => 0) := by
  have hl := (h1 (fun _ => True)).lt
  have h2 := b2.size
  have hb := below_alloc (Below.refl w2.heap.size w2) (.cells #[.int .i64 0, .int .i64 0, .int .i64 0, .int .i64 0, .int .i64 0, .int .i64 0] 3)
  refine ⟨((h1 _).chg (Chg.of_below b2 (fun _ => False)) (fun h => h) (fun _ _ h => h)).chg (Chg.of_below hb (fun _ => False)) (fun h => h) (fun _ _ h => h), ⟨_, blk_new _ _, by simp, fun m hm => ?_⟩, fun m _ => ⟨Int.le_refl 0, Int.le_refl 0⟩, by decide, by omega, below_step (below_step b1 b2) hb, ⟨Nat.le_refl _, by have := b1.size; omega⟩⟩
  rcases m with _ | _ | _ | _ | _ | _ | m
  case succ.succ.succ.succ.succ.succ => omega
  all_goals rfl
set_option maxHeartbeats 8000000 in
set_option maxRecDepth 100000 in
theorem dedupOnce_hand (A : Option Addr) (c : Nat) (l : List S28) (w : World) (hG : l.length * 32 ≤ 140737488351232 ∧ l.length ≤ 9223372036854775807 ∧ ∀ a ∈ l, Wf a) (hC : Kd.C k28 w A l.length l) (hle : l.length ≤ c) :
    Calls Try.prog 3 #[.slice A l.length c] w fun e w' => e = .returned (.bool true) ∧ Below w.heap.size w w' := by
  have HG := Aside0.mk hG
  have HC := Aside0.mk hC
  have hm := hG.2.1
  clear hG hC
  have hmk := make_ints
  go_enter Try.func3, Try.ntmps3
  go_wp2_with (first
    | (go_at_call 8; refine (new_calls _).mono ?_; rintro e w1 ⟨rfl, h1, b1, -⟩; have H1 := Aside0.mk h1; have B1 := Aside0.mk b1; clear h1 b1)
    | (go_at_call 9; refine (awake_calls _).mono ?_; rintro e w2 ⟨rfl, b2⟩; have HO := Aside0.mk (onc_start H1.out B1.out b2); clear b2 H1 B1))
  clear hmk
  go_loopg [5] 120 (fun kq vi wr => ∃ (i : Nat) (T : Tb) (nx : Nat → Int), vi = .int .i64 i ∧ Aside0 (i + kq = 120) ∧ Aside0 (i ≤ l.length) ∧ Aside0 (Onc w w.heap.size w2.heap.size (2 * i) wr T nx) ∧ Aside0 (Lasts T nx))
  case atStart => exact ⟨0, T0, _, rfl, ⟨by omega⟩, ⟨by omega⟩, HO, ⟨fun m _ => rfl⟩⟩
  case round =>
    clear HO
    obtain ⟨i, T, nx, rfl, HK, HI, HO, HLA⟩ := hrel
    have hi120 : i ≤ 120 := by have := HK.out; omega
    by_cases hgo : i < l.length ∧ i < 120
    · obtain ⟨hlt, h120⟩ := hgo
      obtain ⟨ad, rfl, y0, y1, y2, y3⟩ := act_cells (Kd.C_below HC.out HO.out.low) i hlt
      have hi0 : (0 : Int) ≤ (i : Int) := by omega
      have hi1 : (i : Int) < (l.length : Int) := by omega
      generalize l[i].f0 = kd at *
      generalize l[i].f1 = cl at *
      generalize l[i].f2 = sq at *
      generalize l[i].f3 = co at *
      by_cases hin : isC cl
      · obtain ⟨m, hm6, rfl⟩ := isC_nat hin
        have b3 : (0 : Int) ≤ (m : Int) := by omega
        have b4 : (m : Int) < 6 := by omega
        have HF := Aside0.mk (HO.out.fine m hm6)
        clear hin
        by_cases h45 : kd = 4 ∨ kd = 5
        · rcases h45 with h4 | h5
          case' inl => have k4 : (kd == 4) = true := by simpa using h4
          case' inr => (have k4 : (kd == 4) = false := by (rw [h5]; rfl)); (have k5 : (kd == 5) = true := by simpa using h5)
          case' inl => clear h4
          case' inr => clear h5
          all_goals
            go_wp2_with (first
              | ((with_reducible refine gate_dst (N := 6) rfl ?_); refine box_event ?hg (N := 6) ?hd (cs := #[.int .i64 0, .int .i64 0, .int .i64 0, .int .i64 0]) (t := 28) ?hr ?_; (case hd => rfl); (case hg => rfl); (case hr => first | (go_simp; done) | (go_simp; rfl)); intro gA hgA w1 hbox hb1; have hk1 := Aside0.mk (Chg.of_below hb1 (fun _ => False)); have HA := Aside0.mk (show wr.heap.size ≤ gA from Nat.le_of_eq hgA.symm); have BK1 := Aside0.mk hbox; clear y0 y1 y2 y3; obtain ⟨d0, d1, d2, d3, f0, f1, f2, f3⟩ := box4 hbox; clear hb1 hbox hgA)
              | ((with_reducible refine gate_store (t := 28) (p := 6) rfl ?_); refine store_event (t := 28) (p := 6) (v := ?vo) (w1 := ((((w1.setCell ⟨gA, 0, none⟩ (.int .i64 kd)).setCell ⟨gA, 1, none⟩ (.int .i64 (m : Int))).setCell ⟨gA, 2, none⟩ (.int .i64 sq)).setCell ⟨gA, 3, none⟩ (.int .i64 co))) ?hg ?ho ?hn ?hr ?_; (case ho => rfl); (case hg => rfl); (case hn => rfl); (case hr => first | (go_simp; done) | (go_simp; rfl)); intro ws hws; have hk2 : Aside0 (Chg (fun _ => False) wr ws) := ⟨by rw [hws]; exact (((hk1.out.set (.inr HA.out) _).set (.inr HA.out) _).set (.inr HA.out) _).set (.inr HA.out) _⟩; have BK : Aside0 (ws.heap[gA]? = some (.cells #[.int .i64 kd, .int .i64 (m : Int), .int .i64 sq, .int .i64 co] 28 (0, 0))) := ⟨by rw [hws]; exact blk_put (blk_put (blk_put (blk_put BK1.out 0 _ rfl) 1 _ rfl) 2 _ rfl) 3 _ rfl⟩; have n0 := Aside0.mk (HO.out.chg hk2.out); have HAW := Aside0.mk (HO.out.away HA.out); clear HO BK1 hk1 hk2 hws d0 d1 d2 d3 f0 f1 f2 f3; have HO := n0; clear n0; obtain ⟨d0, d1, d2, d3, f0, f1, f2, f3⟩ := box4 BK.out)
              | (go_at_call 10; refine (is_yes m hm6 _).mono ?_; rintro e w' ⟨rfl, rfl⟩)
              | (go_at_call 11; refine (onc_got HO.out).mono ?_; rintro e w3 ⟨rfl, h, hc⟩; have n0 := Aside0.mk ((hc.keep gA (blk_lt BK.out) (fun e => HAW.out (.inl e))).trans BK.out); have n1 := Aside0.mk h; clear BK HO h d0 d1 d2 d3 f0 f1 f2 f3; have BK := n0; have HO := n1; clear n0 n1; obtain ⟨d0, d1, d2, d3, f0, f1, f2, f3⟩ := box4 BK.out))
            go_roundg (120 - (i + 1))
            case measure => have := HK.out; omega
            case rel => exact ⟨i + 1, _, _, by go_num, ⟨by omega⟩, ⟨by omega⟩, ⟨HO.out.more (by omega) (by omega)⟩, ⟨lasts_got HLA.out _ _⟩⟩
        · have k4 : (kd == 4) = false := by simp; omega
          have k5 : (kd == 5) = false := by simp; omega
          clear h45
          by_cases h23 : kd = 2 ∨ kd = 3
          case pos =>
            obtain ⟨sn, hsn⟩ : ∃ sn, dNext T m = sn := ⟨_, rfl⟩
            have HSN := Aside0.mk hsn
            clear hsn
            rcases h23 with h2 | h3
            case' inl => have k2 : (kd == 2) = true := by simpa using h2
            case' inr => (have k2 : (kd == 2) = false := by (rw [h3]; rfl)); (have k3 : (kd == 3) = true := by simpa using h3)
            case' inl => clear h2
            case' inr => clear h3
            all_goals
              by_cases hr : (dPut T m sn co).1 = 0
              · have hp := put_zero hm6 hr
                have HF2 := Aside0.mk (lasts_after HLA.out co sn hp.1)
                have HP0 := Aside0.mk (show dPut T m sn co = (0, (T.upd m ⟨(T m).got, (T m).codes ++ [co]⟩)) from Prod.ext hr hp.2.2)
                have HNM := Aside0.mk (show nx m = sn - 1 by rw [HLA.out m hm6, hp.1]; unfold nextOf; omega)
                have HCA := Aside0.mk (show dCode (T.upd m ⟨(T m).got, (T m).codes ++ [co]⟩) m sn = (co, 0) by rw [hp.1]; exact code_after hm6 co HF.out.1)
                have HAG := Aside0.mk (show dPut (T.upd m ⟨(T m).got, (T m).codes ++ [co]⟩) m sn 0 = (9, (T.upd m ⟨(T m).got, (T m).codes ++ [co]⟩)) by rw [hp.1]; exact again_after hm6 co HF.out.1)
                have b5 : 1 ≤ sn := by have := HF.out; have := hp.1; unfold nextOf at this; omega
                have b6 : sn ≤ 1000000 := by have := HF.out; have := hp.1; unfold nextOf at this; omega
                clear hr hp
                go_wp2_with (first
                  | ((with_reducible refine gate_dst (N := 6) rfl ?_); refine box_event ?hg (N := 6) ?hd (cs := #[.int .i64 0, .int .i64 0, .int .i64 0, .int .i64 0]) (t := 28) ?hr ?_; (case hd => rfl); (case hg => rfl); (case hr => first | (go_simp; done) | (go_simp; rfl)); intro gA hgA w1 hbox hb1; have hk1 := Aside0.mk (Chg.of_below hb1 (fun _ => False)); have HA := Aside0.mk (show wr.heap.size ≤ gA from Nat.le_of_eq hgA.symm); have BK1 := Aside0.mk hbox; clear y0 y1 y2 y3; obtain ⟨d0, d1, d2, d3, f0, f1, f2, f3⟩ := box4 hbox; clear hb1 hbox hgA)
                  | ((with_reducible refine gate_store (t := 28) (p := 6) rfl ?_); refine store_event (t := 28) (p := 6) (v := ?vo) (w1 := ((((w1.setCell ⟨gA, 0, none⟩ (.int .i64 kd)).setCell ⟨gA, 1, none⟩ (.int .i64 (m : Int))).setCell ⟨gA, 2, none⟩ (.int .i64 sq)).setCell ⟨gA, 3, none⟩ (.int .i64 co))) ?hg ?ho ?hn ?hr ?_; (case ho => rfl); (case hg => rfl); (case hn => rfl); (case hr => first | (go_simp; done) | (go_simp; rfl)); intro ws hws; have hk2 : Aside0 (Chg (fun _ => False) wr ws) := ⟨by rw [hws]; exact (((hk1.out.set (.inr HA.out) _).set (.inr HA.out) _).set (.inr HA.out) _).set (.inr HA.out) _⟩; have BK : Aside0 (ws.heap[gA]? = some (.cells #[.int .i64 kd, .int .i64 (m : Int), .int .i64 sq, .int .i64 co] 28 (0, 0))) := ⟨by rw [hws]; exact blk_put (blk_put (blk_put (blk_put BK1.out 0 _ rfl) 1 _ rfl) 2 _ rfl) 3 _ rfl⟩; have n0 := Aside0.mk (HO.out.chg hk2.out); have HAW := Aside0.mk (HO.out.away HA.out); clear HO BK1 hk1 hk2 hws d0 d1 d2 d3 f0 f1 f2 f3; have HO := n0; clear n0; obtain ⟨d0, d1, d2, d3, f0, f1, f2, f3⟩ := box4 BK.out)
                  | (go_at_call 10; refine (is_yes m hm6 _).mono ?_; rintro e w' ⟨rfl, rfl⟩)
                  | (go_at_call 12; refine (onc_next HO.out).mono ?_; rintro e w3 ⟨rfl, hb⟩; rw [HSN.out]; have h := HO.out.below hb; have n0 := Aside0.mk (blk_below BK.out hb); have n1 := Aside0.mk h; clear BK HO h d0 d1 d2 d3 f0 f1 f2 f3; have BK := n0; have HO := n1; clear n0 n1; obtain ⟨d0, d1, d2, d3, f0, f1, f2, f3⟩ := box4 BK.out)
                  | (go_at_call 13; (with_reducible refine (onc_put_is (n := (m : Int)) (seq := sn) (code := co) (r := 0) HO.out HP0.out (by omega)).mono ?_); rintro e w3 ⟨rfl, h, hc⟩; have n0 := Aside0.mk ((hc.keep gA (blk_lt BK.out) (fun e => HAW.out (.inl e))).trans BK.out); have n1 := Aside0.mk h; clear BK HO h d0 d1 d2 d3 f0 f1 f2 f3; have BK := n0; have HO := n1; clear n0 n1; obtain ⟨d0, d1, d2, d3, f0, f1, f2, f3⟩ := box4 BK.out; have hcn := HO.out.cell hm6; rw [HNM.out] at hcn; obtain ⟨hcn0, hcn1⟩ := hcn)
                  | ((with_reducible refine gate_store (t := 3) (p := 84) rfl ?_); refine store_event (t := 3) (p := 84) (v := ?vo2) (w1 := w3.setCell ⟨w2.heap.size, m, none⟩ (.int .i64 sn)) ?hg2 ?ho2 ?hn2 ?hr2 ?_; (case ho2 => rfl); (case hg2 => rfl); (case hn2 => rfl); (case hr2 => first | (go_simp; done) | (go_simp; rfl)); intro w4 hw4; have n0 : Aside0 (w4.heap[gA]? = some (.cells #[.int .i64 kd, .int .i64 (m : Int), .int .i64 sq, .int .i64 co] 28 (0, 0))) := ⟨by rw [hw4]; exact blk_far BK.out (fun e => HAW.out (.inr e)) _⟩; have n1 : Aside0 (Onc w w.heap.size w2.heap.size (2 * i + 1) w4 (T.upd m ⟨(T m).got, (T m).codes ++ [co]⟩) (fun k => if k = m then sn else nx k)) := ⟨by rw [hw4]; exact HO.out.store hm6 sn⟩; clear BK HO hw4 hcn0 hcn1 d0 d1 d2 d3 f0 f1 f2 f3; have BK := n0; have HO := n1; clear n0 n1; obtain ⟨d0, d1, d2, d3, f0, f1, f2, f3⟩ := box4 BK.out)
                  | (go_at_call 14; (with_reducible refine (onc_code HO.out HCA.out).mono ?_); rintro e w3 ⟨rfl, hb⟩; have h := HO.out.below hb; have n0 := Aside0.mk (blk_below BK.out hb); have n1 := Aside0.mk h; clear BK HO h d0 d1 d2 d3 f0 f1 f2 f3; have BK := n0; have HO := n1; clear n0 n1; obtain ⟨d0, d1, d2, d3, f0, f1, f2, f3⟩ := box4 BK.out)
                  | (go_at_call 13; (with_reducible refine (onc_put_is (n := (m : Int)) (seq := sn) (code := 0) (r := 9) HO.out HAG.out (by omega)).mono ?_); rintro e w3 ⟨rfl, h, hc⟩; have n0 := Aside0.mk ((hc.keep gA (blk_lt BK.out) (fun e => HAW.out (.inl e))).trans BK.out); have n1 := Aside0.mk h; clear BK HO h d0 d1 d2 d3 f0 f1 f2 f3; have BK := n0; have HO := n1; clear n0 n1; obtain ⟨d0, d1, d2, d3, f0, f1, f2, f3⟩ := box4 BK.out))
                go_roundg (120 - (i + 1))
                case measure => have := HK.out; omega
                case rel => exact ⟨i + 1, _, _, by go_num, ⟨by omega⟩, ⟨by omega⟩, ⟨HO.out.more (by omega) (by omega)⟩, ⟨HF2.out⟩⟩
              · have hrb : ((dPut T m sn co).1 == 0) = false := by simpa using hr
                have hrb2 : ((dPut T m sn co).1 != 0) = true := by simpa using hr
                have HP := Aside0.mk (put_other hm6 hr)
                clear hr
                go_wp2_with (first
                  | ((with_reducible refine gate_dst (N := 6) rfl ?_); refine box_event ?hg (N := 6) ?hd (cs := #[.int .i64 0, .int .i64 0, .int .i64 0, .int .i64 0]) (t := 28) ?hr ?_; (case hd => rfl); (case hg => rfl); (case hr => first | (go_simp; done) | (go_simp; rfl)); intro gA hgA w1 hbox hb1; have hk1 := Aside0.mk (Chg.of_below hb1 (fun _ => False)); have HA := Aside0.mk (show wr.heap.size ≤ gA from Nat.le_of_eq hgA.symm); have BK1 := Aside0.mk hbox; clear y0 y1 y2 y3; obtain ⟨d0, d1, d2, d3, f0, f1, f2, f3⟩ := box4 hbox; clear hb1 hbox hgA)
                  | ((with_reducible refine gate_store (t := 28) (p := 6) rfl ?_); refine store_event (t := 28) (p := 6) (v := ?vo) (w1 := ((((w1.setCell ⟨gA, 0, none⟩ (.int .i64 kd)).setCell ⟨gA, 1, none⟩ (.int .i64 (m : Int))).setCell ⟨gA, 2, none⟩ (.int .i64 sq)).setCell ⟨gA, 3, none⟩ (.int .i64 co))) ?hg ?ho ?hn ?hr ?_; (case ho => rfl); (case hg => rfl); (case hn => rfl); (case hr => first | (go_simp; done) | (go_simp; rfl)); intro ws hws; have hk2 : Aside0 (Chg (fun _ => False) wr ws) := ⟨by rw [hws]; exact (((hk1.out.set (.inr HA.out) _).set (.inr HA.out) _).set (.inr HA.out) _).set (.inr HA.out) _⟩; have BK : Aside0 (ws.heap[gA]? = some (.cells #[.int .i64 kd, .int .i64 (m : Int), .int .i64 sq, .int .i64 co] 28 (0, 0))) := ⟨by rw [hws]; exact blk_put (blk_put (blk_put (blk_put BK1.out 0 _ rfl) 1 _ rfl) 2 _ rfl) 3 _ rfl⟩; have n0 := Aside0.mk (HO.out.chg hk2.out); have HAW := Aside0.mk (HO.out.away HA.out); clear HO BK1 hk1 hk2 hws d0 d1 d2 d3 f0 f1 f2 f3; have HO := n0; clear n0; obtain ⟨d0, d1, d2, d3, f0, f1, f2, f3⟩ := box4 BK.out)
                  | (go_at_call 10; refine (is_yes m hm6 _).mono ?_; rintro e w' ⟨rfl, rfl⟩)
                  | (go_at_call 12; refine (onc_next HO.out).mono ?_; rintro e w3 ⟨rfl, hb⟩; rw [HSN.out]; have h := HO.out.below hb; have n0 := Aside0.mk (blk_below BK.out hb); have n1 := Aside0.mk h; clear BK HO h d0 d1 d2 d3 f0 f1 f2 f3; have BK := n0; have HO := n1; clear n0 n1; obtain ⟨d0, d1, d2, d3, f0, f1, f2, f3⟩ := box4 BK.out)
                  | (go_at_call 13; refine (onc_put (n := (m : Int)) (seq := sn) (code := co) HO.out (by omega)).mono ?_; rintro e w3 ⟨rfl, h, hc⟩; have n0 := Aside0.mk ((hc.keep gA (blk_lt BK.out) (fun e => HAW.out (.inl e))).trans BK.out); have n1 := Aside0.mk h; clear BK HO h d0 d1 d2 d3 f0 f1 f2 f3; have BK := n0; have HO := n1; clear n0 n1; obtain ⟨d0, d1, d2, d3, f0, f1, f2, f3⟩ := box4 BK.out; rw [HP.out] at HO))
                go_roundg (120 - (i + 1))
                case measure => have := HK.out; omega
                case rel => exact ⟨i + 1, _, _, by go_num, ⟨by omega⟩, ⟨by omega⟩, ⟨HO.out.more (by omega) (by omega)⟩, ⟨HLA.out⟩⟩
          case neg =>
            have k2 : (kd == 2) = false := by simp; omega
            have k3 : (kd == 3) = false := by simp; omega
            obtain ⟨sn, hsn⟩ : ∃ sn, sn = sq := ⟨_, rfl⟩
            subst hsn
            clear h23
            by_cases hr : (dPut T m sn co).1 = 0
            · have hp := put_zero hm6 hr
              have HF2 := Aside0.mk (lasts_after HLA.out co sn hp.1)
              have HP0 := Aside0.mk (show dPut T m sn co = (0, (T.upd m ⟨(T m).got, (T m).codes ++ [co]⟩)) from Prod.ext hr hp.2.2)
              have HNM := Aside0.mk (show nx m = sn - 1 by rw [HLA.out m hm6, hp.1]; unfold nextOf; omega)
              have HCA := Aside0.mk (show dCode (T.upd m ⟨(T m).got, (T m).codes ++ [co]⟩) m sn = (co, 0) by rw [hp.1]; exact code_after hm6 co HF.out.1)
              have HAG := Aside0.mk (show dPut (T.upd m ⟨(T m).got, (T m).codes ++ [co]⟩) m sn 0 = (9, (T.upd m ⟨(T m).got, (T m).codes ++ [co]⟩)) by rw [hp.1]; exact again_after hm6 co HF.out.1)
              have b5 : 1 ≤ sn := by have := HF.out; have := hp.1; unfold nextOf at this; omega
              have b6 : sn ≤ 1000000 := by have := HF.out; have := hp.1; unfold nextOf at this; omega
              clear hr hp
              go_wp2_with (first
                | ((with_reducible refine gate_dst (N := 6) rfl ?_); refine box_event ?hg (N := 6) ?hd (cs := #[.int .i64 0, .int .i64 0, .int .i64 0, .int .i64 0]) (t := 28) ?hr ?_; (case hd => rfl); (case hg => rfl); (case hr => first | (go_simp; done) | (go_simp; rfl)); intro gA hgA w1 hbox hb1; have hk1 := Aside0.mk (Chg.of_below hb1 (fun _ => False)); have HA := Aside0.mk (show wr.heap.size ≤ gA from Nat.le_of_eq hgA.symm); have BK1 := Aside0.mk hbox; clear y0 y1 y2 y3; obtain ⟨d0, d1, d2, d3, f0, f1, f2, f3⟩ := box4 hbox; clear hb1 hbox hgA)
                | ((with_reducible refine gate_store (t := 28) (p := 6) rfl ?_); refine store_event (t := 28) (p := 6) (v := ?vo) (w1 := ((((w1.setCell ⟨gA, 0, none⟩ (.int .i64 kd)).setCell ⟨gA, 1, none⟩ (.int .i64 (m : Int))).setCell ⟨gA, 2, none⟩ (.int .i64 sn)).setCell ⟨gA, 3, none⟩ (.int .i64 co))) ?hg ?ho ?hn ?hr ?_; (case ho => rfl); (case hg => rfl); (case hn => rfl); (case hr => first | (go_simp; done) | (go_simp; rfl)); intro ws hws; have hk2 : Aside0 (Chg (fun _ => False) wr ws) := ⟨by rw [hws]; exact (((hk1.out.set (.inr HA.out) _).set (.inr HA.out) _).set (.inr HA.out) _).set (.inr HA.out) _⟩; have BK : Aside0 (ws.heap[gA]? = some (.cells #[.int .i64 kd, .int .i64 (m : Int), .int .i64 sn, .int .i64 co] 28 (0, 0))) := ⟨by rw [hws]; exact blk_put (blk_put (blk_put (blk_put BK1.out 0 _ rfl) 1 _ rfl) 2 _ rfl) 3 _ rfl⟩; have n0 := Aside0.mk (HO.out.chg hk2.out); have HAW := Aside0.mk (HO.out.away HA.out); clear HO BK1 hk1 hk2 hws d0 d1 d2 d3 f0 f1 f2 f3; have HO := n0; clear n0; obtain ⟨d0, d1, d2, d3, f0, f1, f2, f3⟩ := box4 BK.out)
                | (go_at_call 10; refine (is_yes m hm6 _).mono ?_; rintro e w' ⟨rfl, rfl⟩)
                | (go_at_call 13; (with_reducible refine (onc_put_is (n := (m : Int)) (seq := sn) (code := co) (r := 0) HO.out HP0.out (by omega)).mono ?_); rintro e w3 ⟨rfl, h, hc⟩; have n0 := Aside0.mk ((hc.keep gA (blk_lt BK.out) (fun e => HAW.out (.inl e))).trans BK.out); have n1 := Aside0.mk h; clear BK HO h d0 d1 d2 d3 f0 f1 f2 f3; have BK := n0; have HO := n1; clear n0 n1; obtain ⟨d0, d1, d2, d3, f0, f1, f2, f3⟩ := box4 BK.out; have hcn := HO.out.cell hm6; rw [HNM.out] at hcn; obtain ⟨hcn0, hcn1⟩ := hcn)
                | ((with_reducible refine gate_store (t := 3) (p := 84) rfl ?_); refine store_event (t := 3) (p := 84) (v := ?vo2) (w1 := w3.setCell ⟨w2.heap.size, m, none⟩ (.int .i64 sn)) ?hg2 ?ho2 ?hn2 ?hr2 ?_; (case ho2 => rfl); (case hg2 => rfl); (case hn2 => rfl); (case hr2 => first | (go_simp; done) | (go_simp; rfl)); intro w4 hw4; have n0 : Aside0 (w4.heap[gA]? = some (.cells #[.int .i64 kd, .int .i64 (m : Int), .int .i64 sn, .int .i64 co] 28 (0, 0))) := ⟨by rw [hw4]; exact blk_far BK.out (fun e => HAW.out (.inr e)) _⟩; have n1 : Aside0 (Onc w w.heap.size w2.heap.size (2 * i + 1) w4 (T.upd m ⟨(T m).got, (T m).codes ++ [co]⟩) (fun k => if k = m then sn else nx k)) := ⟨by rw [hw4]; exact HO.out.store hm6 sn⟩; clear BK HO hw4 hcn0 hcn1 d0 d1 d2 d3 f0 f1 f2 f3; have BK := n0; have HO := n1; clear n0 n1; obtain ⟨d0, d1, d2, d3, f0, f1, f2, f3⟩ := box4 BK.out)
                | (go_at_call 14; (with_reducible refine (onc_code HO.out HCA.out).mono ?_); rintro e w3 ⟨rfl, hb⟩; have h := HO.out.below hb; have n0 := Aside0.mk (blk_below BK.out hb); have n1 := Aside0.mk h; clear BK HO h d0 d1 d2 d3 f0 f1 f2 f3; have BK := n0; have HO := n1; clear n0 n1; obtain ⟨d0, d1, d2, d3, f0, f1, f2, f3⟩ := box4 BK.out)
                | (go_at_call 13; (with_reducible refine (onc_put_is (n := (m : Int)) (seq := sn) (code := 0) (r := 9) HO.out HAG.out (by omega)).mono ?_); rintro e w3 ⟨rfl, h, hc⟩; have n0 := Aside0.mk ((hc.keep gA (blk_lt BK.out) (fun e => HAW.out (.inl e))).trans BK.out); have n1 := Aside0.mk h; clear BK HO h d0 d1 d2 d3 f0 f1 f2 f3; have BK := n0; have HO := n1; clear n0 n1; obtain ⟨d0, d1, d2, d3, f0, f1, f2, f3⟩ := box4 BK.out))
              go_roundg (120 - (i + 1))
              case measure => have := HK.out; omega
              case rel => exact ⟨i + 1, _, _, by go_num, ⟨by omega⟩, ⟨by omega⟩, ⟨HO.out.more (by omega) (by omega)⟩, ⟨HF2.out⟩⟩
            · have hrb : ((dPut T m sn co).1 == 0) = false := by simpa using hr
              have hrb2 : ((dPut T m sn co).1 != 0) = true := by simpa using hr
              have HP := Aside0.mk (put_other hm6 hr)
              clear hr
              go_wp2_with (first
                | ((with_reducible refine gate_dst (N := 6) rfl ?_); refine box_event ?hg (N := 6) ?hd (cs := #[.int .i64 0, .int .i64 0, .int .i64 0, .int .i64 0]) (t := 28) ?hr ?_; (case hd => rfl); (case hg => rfl); (case hr => first | (go_simp; done) | (go_simp; rfl)); intro gA hgA w1 hbox hb1; have hk1 := Aside0.mk (Chg.of_below hb1 (fun _ => False)); have HA := Aside0.mk (show wr.heap.size ≤ gA from Nat.le_of_eq hgA.symm); have BK1 := Aside0.mk hbox; clear y0 y1 y2 y3; obtain ⟨d0, d1, d2, d3, f0, f1, f2, f3⟩ := box4 hbox; clear hb1 hbox hgA)
                | ((with_reducible refine gate_store (t := 28) (p := 6) rfl ?_); refine store_event (t := 28) (p := 6) (v := ?vo) (w1 := ((((w1.setCell ⟨gA, 0, none⟩ (.int .i64 kd)).setCell ⟨gA, 1, none⟩ (.int .i64 (m : Int))).setCell ⟨gA, 2, none⟩ (.int .i64 sn)).setCell ⟨gA, 3, none⟩ (.int .i64 co))) ?hg ?ho ?hn ?hr ?_; (case ho => rfl); (case hg => rfl); (case hn => rfl); (case hr => first | (go_simp; done) | (go_simp; rfl)); intro ws hws; have hk2 : Aside0 (Chg (fun _ => False) wr ws) := ⟨by rw [hws]; exact (((hk1.out.set (.inr HA.out) _).set (.inr HA.out) _).set (.inr HA.out) _).set (.inr HA.out) _⟩; have BK : Aside0 (ws.heap[gA]? = some (.cells #[.int .i64 kd, .int .i64 (m : Int), .int .i64 sn, .int .i64 co] 28 (0, 0))) := ⟨by rw [hws]; exact blk_put (blk_put (blk_put (blk_put BK1.out 0 _ rfl) 1 _ rfl) 2 _ rfl) 3 _ rfl⟩; have n0 := Aside0.mk (HO.out.chg hk2.out); have HAW := Aside0.mk (HO.out.away HA.out); clear HO BK1 hk1 hk2 hws d0 d1 d2 d3 f0 f1 f2 f3; have HO := n0; clear n0; obtain ⟨d0, d1, d2, d3, f0, f1, f2, f3⟩ := box4 BK.out)
                | (go_at_call 10; refine (is_yes m hm6 _).mono ?_; rintro e w' ⟨rfl, rfl⟩)
                | (go_at_call 13; refine (onc_put (n := (m : Int)) (seq := sn) (code := co) HO.out (by omega)).mono ?_; rintro e w3 ⟨rfl, h, hc⟩; have n0 := Aside0.mk ((hc.keep gA (blk_lt BK.out) (fun e => HAW.out (.inl e))).trans BK.out); have n1 := Aside0.mk h; clear BK HO h d0 d1 d2 d3 f0 f1 f2 f3; have BK := n0; have HO := n1; clear n0 n1; obtain ⟨d0, d1, d2, d3, f0, f1, f2, f3⟩ := box4 BK.out; rw [HP.out] at HO))
              go_roundg (120 - (i + 1))
              case measure => have := HK.out; omega
              case rel => exact ⟨i + 1, _, _, by go_num, ⟨by omega⟩, ⟨by omega⟩, ⟨HO.out.more (by omega) (by omega)⟩, ⟨HLA.out⟩⟩
      · have HN := Aside0.mk hin
        clear hin
        go_wp2_with (first
          | ((with_reducible refine gate_dst (N := 6) rfl ?_); refine box_event ?hg (N := 6) ?hd (cs := #[.int .i64 0, .int .i64 0, .int .i64 0, .int .i64 0]) (t := 28) ?hr ?_; (case hd => rfl); (case hg => rfl); (case hr => first | (go_simp; done) | (go_simp; rfl)); intro gA hgA w1 hbox hb1; have hk1 := Aside0.mk (Chg.of_below hb1 (fun _ => False)); have HA := Aside0.mk (show wr.heap.size ≤ gA from Nat.le_of_eq hgA.symm); have BK1 := Aside0.mk hbox; clear y0 y1 y2 y3; obtain ⟨d0, d1, d2, d3, f0, f1, f2, f3⟩ := box4 hbox; clear hb1 hbox hgA)
          | ((with_reducible refine gate_store (t := 28) (p := 6) rfl ?_); refine store_event (t := 28) (p := 6) (v := ?vo) (w1 := ((((w1.setCell ⟨gA, 0, none⟩ (.int .i64 kd)).setCell ⟨gA, 1, none⟩ (.int .i64 cl)).setCell ⟨gA, 2, none⟩ (.int .i64 sq)).setCell ⟨gA, 3, none⟩ (.int .i64 co))) ?hg ?ho ?hn ?hr ?_; (case ho => rfl); (case hg => rfl); (case hn => rfl); (case hr => first | (go_simp; done) | (go_simp; rfl)); intro ws hws; have hk2 : Aside0 (Chg (fun _ => False) wr ws) := ⟨by rw [hws]; exact (((hk1.out.set (.inr HA.out) _).set (.inr HA.out) _).set (.inr HA.out) _).set (.inr HA.out) _⟩; have BK : Aside0 (ws.heap[gA]? = some (.cells #[.int .i64 kd, .int .i64 cl, .int .i64 sq, .int .i64 co] 28 (0, 0))) := ⟨by rw [hws]; exact blk_put (blk_put (blk_put (blk_put BK1.out 0 _ rfl) 1 _ rfl) 2 _ rfl) 3 _ rfl⟩; have n0 := Aside0.mk (HO.out.chg hk2.out); have HAW := Aside0.mk (HO.out.away HA.out); clear HO BK1 hk1 hk2 hws d0 d1 d2 d3 f0 f1 f2 f3; have HO := n0; clear n0; obtain ⟨d0, d1, d2, d3, f0, f1, f2, f3⟩ := box4 BK.out)
          | (go_at_call 10; refine (is_no cl HN.out _).mono ?_; rintro e w' ⟨rfl, rfl⟩))
        go_roundg (120 - (i + 1))
        case measure => have := HK.out; omega
        case rel => exact ⟨i + 1, _, _, by go_num, ⟨by omega⟩, ⟨by omega⟩, ⟨HO.out.more (by omega) (by omega)⟩, ⟨HLA.out⟩⟩
    · have hends : i < l.length ∧ ¬ i < 120 ∨ ¬ i < l.length := by omega
      clear hgo
      rcases hends with ⟨e1, e2⟩ | e1
      all_goals
        go_wp2
        go_ret
        exact ⟨rfl, HO.out.low⟩

end Go.Proofs.Ytfmlamnkpoloaaa.Q

/- Arguments of whatever depth (slices of texts, of structs, structs of slices): what the row reads is a row of the printed kinds. -/
namespace Go.Proofs.Ytfmlamnkpoloaaa.Q
open Go.RowKit Go.Proofs.YtfmlamnkpoloaaaW.PrintWords Go.Proofs.YtfmlamnkpoloaaaW.PrintLast Go.Proofs.YtfmlamnkpoloaaaW.PrintMore
set_option linter.unusedVariables false
set_option linter.unusedSimpArgs false

section
variable {H : Type} (enc : TypeId × Value → H) (P : Program) (W : World)

/-- What is read at type t is of the kind d, and good. -/
def Opens {α : Type} (t : TypeId) (d : Kd α) (G : α → Prop) : Prop :=
  P.cellsOf t = d.sz ∧ ∀ (fuel : Nat) (cs : List Value) (x : DataW H × List MemPlace), DataW.trod enc P W 0 (fun _ => true) true fuel t cs = some x → (∀ n ∈ x.1.weights P t, n ≤ reachBytes) → ∃ y, d.K W y cs ∧ G y
/-- What is read at types in line is of the kind d, and good. -/
def OpensSeq {α : Type} (ts : List TypeId) (d : Kd α) (G : α → Prop) : Prop :=
  (ts.map P.cellsOf).sum = d.sz ∧ ∀ (fuel : Nat) (cs : List Value) (xs : List (DataW H × List MemPlace)), cs.length = (ts.map P.cellsOf).sum → xs.length = ts.length →
    (∀ i t, ts[i]? = some t → DataW.trod enc P W 0 (fun _ => true) true fuel t ((cs.drop ((ts.take i).map P.cellsOf).sum).take (P.cellsOf t)) = xs[i]?) →
    (∀ n ∈ DataW.weightsEach P ts (xs.map (·.1)), n ≤ reachBytes) → ∃ y, d.K W y cs ∧ G y
variable {enc P W}

theorem Opens.int {t : TypeId} {k : IntKind} (ht : P.underlying t = some (.int k)) (hc : P.cellsOf t = 1) : Opens enc P W t (Kd.int k) (fun n => (Lit.int k n).wf = true) := by
  refine ⟨hc, fun fuel cs x h _ => ?_⟩
  obtain ⟨n, rfl, _, hw⟩ := DataW.trod_int ht h
  exact ⟨n, rfl, hw⟩
theorem Opens.bool {t : TypeId} (ht : P.underlying t = some .bool) (hc : P.cellsOf t = 1) : Opens enc P W t Kd.bool (fun _ => True) := by
  refine ⟨hc, fun fuel cs x h _ => ?_⟩
  cases fuel with
  | zero => simp [DataW.trod] at h
  | succ n =>
    unfold DataW.trod at h
    rw [ht] at h
    split at h <;> first | exact ⟨_, rfl, trivial⟩ | simp_all
theorem Opens.string {t : TypeId} (ht : P.underlying t = some .string) (hc : P.cellsOf t = 1) : Opens enc P W t Kd.string (fun s => s.size ≤ 140737488351232) := by
  refine ⟨hc, fun fuel cs x h hw => ?_⟩
  obtain ⟨s, rfl, rfl, _⟩ := DataW.trod_string ht h
  refine ⟨s, rfl, ?_⟩
  have := hw s.data.toList.length (by simp [DataW.weights])
  simpa [reachBytes, Array.length_toList] using this
theorem weights_all {e : TypeId} {ds : List (DataW H)} {d : DataW H} (h : d ∈ ds) : ∀ n ∈ d.weights P e, n ∈ DataW.weightsAll P e ds := by
  induction ds with
  | nil => cases h
  | cons d' ds ih =>
    intro n hn
    rw [DataW.weightsAll, List.mem_append]
    rcases List.mem_cons.1 h with rfl | h
    · exact .inl hn
    · exact .inr (ih h n hn)
open Classical in
theorem choose_list {α : Type} (z : α) (R : Nat → α → Prop) (n : Nat) (h : ∀ i, i < n → ∃ y, R i y) : ∃ l : List α, l.length = n ∧ ∀ i (hi : i < n) (hl : i < l.length), R i l[i] := by
  refine ⟨(List.range n).map fun i => if h' : ∃ y, R i y then Classical.choose h' else z, by simp, fun i hi hl => ?_⟩
  have he := h i hi
  simp only [List.getElem_map, List.getElem_range, dif_pos he]
  exact Classical.choose_spec he
theorem Opens.slice {α : Type} (z : α) {t e : TypeId} {d : Kd α} {G : α → Prop} (bytes : Nat) (ht : P.underlying t = some (.slice e)) (hc : P.cellsOf t = 1) (hb : P.bytesOf e = bytes) (h : Opens enc P W e d G) :
    Opens enc P W t (Kd.slice e d) (fun xs => xs.length * bytes ≤ 140737488351232 ∧ xs.length ≤ 9223372036854775807 ∧ ∀ x ∈ xs, G x) := by
  refine ⟨hc, fun fuel cs x hx hw => ?_⟩
  rcases Go.Deep.open_slice ht hx with ⟨rfl, rfl⟩ | ⟨a, len, cap, m, n, D, Pl, rfl, _, hlc, hcm, hm, rfl, hel⟩
  · exact ⟨[], ⟨none, 0, rfl, Nat.le_refl _, Kd.C_nil d W⟩, by simp, by simp, fun x hx => by cases hx⟩
  · have hlm : len ≤ m := by rw [hm]; split <;> omega
    have hwt : DataW.weights P t (.slice ((List.range len).map D) ((List.range (m - len)).map fun j => D (len + j))) =
        (((List.range len).map D).length + ((List.range (m - len)).map fun j => D (len + j)).length) * P.bytesOf e :: (DataW.weightsAll P e ((List.range len).map D) ++ DataW.weightsAll P e ((List.range (m - len)).map fun j => D (len + j))) := by
      rw [DataW.weights]
      simp only [ht]
    have hel' : ∀ i, i < len → ∃ y, (∃ cs', W.cells? 0 (a.add (i * P.cellsOf e)) (P.cellsOf e) = some cs' ∧ d.K W y cs') ∧ G y := by
      intro i hi
      obtain ⟨cs', h1, h2⟩ := hel i (by omega)
      obtain ⟨y, hy, hg⟩ := h.2 n cs' _ h2 (fun n hn => hw n (by
        rw [hwt]
        exact List.mem_cons_of_mem _ (List.mem_append_left _ (weights_all (List.mem_map.2 ⟨i, List.mem_range.2 hi, rfl⟩) n hn))))
      exact ⟨y, ⟨cs', h1, hy⟩, hg⟩
    obtain ⟨l, hll, hl⟩ := choose_list z _ len hel'
    have hb1 := hw _ (by rw [hwt]; exact List.mem_cons_self)
    have hle : len * bytes ≤ 140737488351232 := by
      simp only [List.length_map, List.length_range, hb, reachBytes] at hb1
      exact Nat.le_trans (Nat.mul_le_mul_right _ (by omega)) hb1
    have hmx : len ≤ 9223372036854775807 := by
      simp only [maxLen] at hcm
      omega
    refine ⟨l, ⟨some a, cap, by rw [hll], by omega, by rw [hll], by omega, fun _ => ⟨a, rfl, fun j p hj => ?_⟩⟩, by rw [hll]; exact hle, by omega, fun x hx => ?_⟩
    · obtain ⟨hjl, rfl⟩ := List.getElem?_eq_some_iff.1 hj
      obtain ⟨⟨cs', h1, hK⟩, _⟩ := hl j (by omega) hjl
      obtain ⟨_, hcl, hcell⟩ := World.cells?_some h1
      refine ⟨cs', by rw [hcl, h.1], hK, fun i u hu => ?_⟩
      have hi : i < P.cellsOf e := by
        have := (List.getElem?_eq_some_iff.1 hu).1
        omega
      have := hcell i hi
      rw [hu, add_add, h.1] at this
      exact this
    · obtain ⟨j, hj, rfl⟩ := List.getElem_of_mem hx
      exact (hl j (by omega) hj).2
theorem OpensSeq.one {α : Type} {t : TypeId} {d : Kd α} {G : α → Prop} (h : Opens enc P W t d G) : OpensSeq enc P W [t] d G := by
  refine ⟨by simp [h.1], fun fuel cs xs hl hx hr hw => ?_⟩
  have hr0 := hr 0 t rfl
  simp only [List.take_zero, List.map_nil, List.sum_nil, List.drop_zero] at hr0
  have hc : cs.length = P.cellsOf t := by simpa using hl
  rw [List.take_of_length_le (by omega)] at hr0
  match xs, hx with
  | [x], _ =>
    exact h.2 fuel cs x hr0 (fun n hn => hw n (by simp [DataW.weightsEach, hn]))
theorem OpensSeq.cons {α β : Type} {t : TypeId} {ts : List TypeId} {d : Kd α} {d' : Kd β} {G : α → Prop} {G' : β → Prop} (h : Opens enc P W t d G) (h' : OpensSeq enc P W ts d' G') :
    OpensSeq enc P W (t :: ts) (Kd.pair d d') (fun y => G y.1 ∧ G' y.2) := by
  refine ⟨by simp [Kd.pair, h.1, h'.1], fun fuel cs xs hl hx hr hw => ?_⟩
  match xs, hx with
  | x :: xs, hx =>
    have hr0 := hr 0 t rfl
    simp only [List.take_zero, List.map_nil, List.sum_nil, List.drop_zero] at hr0
    obtain ⟨y, hy, hg⟩ := h.2 fuel _ x hr0 (fun n hn => hw n (by simp [DataW.weightsEach, hn]))
    have hl2 : (cs.drop (P.cellsOf t)).length = (ts.map P.cellsOf).sum := by
      rw [List.length_drop, hl, List.map_cons, List.sum_cons]
      omega
    obtain ⟨y', hy', hg'⟩ := h'.2 fuel (cs.drop (P.cellsOf t)) xs hl2 (by simpa using hx) (fun i t' ht' => by
      have := hr (i + 1) t' (by simpa using ht')
      simp only [List.take_succ_cons, List.map_cons, List.sum_cons, List.getElem?_cons_succ] at this
      rw [List.drop_drop]
      exact this) (fun n hn => hw n (by simp only [List.map_cons, DataW.weightsEach, List.mem_append]; exact .inr hn))
    exact ⟨(y, y'), ⟨_, _, (List.take_append_drop (P.cellsOf t) cs).symm, hy, hy'⟩, hg, hg'⟩
theorem Opens.struct {α β : Type} {t : TypeId} {fs : Array Field} (ts : List TypeId) {d : Kd α} {G : α → Prop} (f : β → α) (g : α → β) (hfg : ∀ a, f (g a) = a) (ht : P.underlying t = some (.struct fs)) (hts : fs.toList.map (·.type) = ts)
    (hoff0 : fs.toList.map (·.offset) = (List.range fs.size).map fun i => ((ts.take i).map P.cellsOf).sum) (hc : P.cellsOf t = (ts.map P.cellsOf).sum) (h : OpensSeq enc P W ts d G) : Opens enc P W t (Kd.iso d f) (fun y => G (f y)) := by
  have hoff : ∀ i fd, fs[i]? = some fd → fd.offset = ((ts.take i).map P.cellsOf).sum := by
    intro i fd hi
    have h1 : (fs.toList.map (·.offset))[i]? = some fd.offset := by rw [List.getElem?_map, Array.getElem?_toList, hi]; rfl
    have hlt : i < fs.size := (Array.getElem?_eq_some_iff.1 hi).1
    rw [hoff0, List.getElem?_map, List.getElem?_range hlt] at h1
    simpa using h1.symm
  refine ⟨hc.trans h.1, fun fuel cs x hx hw => ?_⟩
  obtain ⟨xs, n, rfl, rfl, hcl, hxl, hfd⟩ := DataW.trod_struct ht hx
  have hwt : DataW.weights P t (.agg (xs.map (·.1)) : DataW H) = DataW.weightsEach P ts (xs.map (·.1)) := by
    rw [DataW.weights]
    simp only [ht, hts]
  obtain ⟨y, hy, hg⟩ := h.2 n cs xs (hcl.trans hc) (by rw [hxl, ← hts]; simp) (fun i t' ht' => by
    rw [← hts, List.getElem?_map, Option.map_eq_some_iff] at ht'
    obtain ⟨fd, hfi, rfl⟩ := ht'
    rw [Array.getElem?_toList] at hfi
    rw [← hoff i fd hfi]
    exact hfd i fd hfi) (fun n hn => hw n (by rw [hwt]; exact hn))
  exact ⟨g y, by show d.K W (f (g y)) cs; rw [hfg]; exact hy, by show G (f (g y)); rw [hfg]; exact hg⟩
/-- The weights of all arguments, and of one. -/
theorem weights_each {ts : List TypeId} : ∀ {ds : List (DataW H)} {j : Nat} {t : TypeId} {d : DataW H}, ts[j]? = some t → ds[j]? = some d → ∀ n ∈ d.weights P t, n ∈ DataW.weightsEach P ts ds := by
  induction ts with
  | nil => intro ds j t d h; simp at h
  | cons t' ts ih =>
    intro ds j t d h h' n hn
    cases ds with
    | nil => simp at h'
    | cons d' ds =>
      rw [DataW.weightsEach, List.mem_append]
      cases j with
      | zero =>
        simp only [List.getElem?_cons_zero, Option.some.injEq] at h h'
        subst h h'
        exact .inl hn
      | succ j => exact .inr (ih (by simpa using h) (by simpa using h') n hn)
end

end Go.Proofs.Ytfmlamnkpoloaaa.Q
