/- The contract of check.Join. -/
import Derived.Test.YtnlimhjbdgbcoaaHJoin
import Derived.Test.YtnlimhjbdgbcoaaHReg
namespace Go.Proofs.Ytnlimhjbdgbcoaa.Q
open Go.RowKit Go.Proofs.YtnlimhjbdgbcoaaW.PrintWords Go.Proofs.YtnlimhjbdgbcoaaW.PrintLast Go.Proofs.YtnlimhjbdgbcoaaW.PrintMore Go.Proofs.Ytnlimhjbdgbcoaa.Crc
set_option linter.unusedVariables false
set_option linter.unusedSimpArgs false

/-- A turn stands for so many bits 0. -/
structure Rep (t : List Int) (m : Nat) : Prop where
  len : t.length = 32
  bit : ∀ i, i < 32 → gt t i = ((sK m (2 ^ i) : Nat) : Int)
theorem two_pow_lt32 (i : Nat) (hi : i < 32) : 2 ^ i < 4294967296 := Nat.pow_lt_pow_right (a := 2) (m := i) (n := 32) (by decide) hi
theorem Rep.range {t : List Int} {m : Nat} (h : Rep t m) (i : Nat) (hi : i < 32) : 0 ≤ gt t i ∧ gt t i < 4294967296 := by
  rw [h.bit i hi]
  have := sK_lt m _ (two_pow_lt32 i hi)
  omega
theorem odd_split (r i : Nat) (h : r % 2 = 1) : r * 2 ^ i = (r / 2) * 2 ^ (i + 1) ^^^ 2 ^ i := by
  have h1 : r = (2 * (r / 2)) ^^^ 1 := by
    have h2 : 2 ^ 1 * (r / 2) + 1 = 2 ^ 1 * (r / 2) ||| 1 := Nat.two_pow_add_eq_or_of_lt (i := 1) (by decide) _
    have h3 : 2 ^ 1 * (r / 2) ||| 1 = 2 ^ 1 * (r / 2) ^^^ 1 := by
      apply Nat.eq_of_testBit_eq
      intro j
      rw [Nat.testBit_or, Nat.testBit_xor]
      cases j with
      | zero => simp
      | succ j => simp [Nat.testBit_succ]
    rw [Nat.pow_one] at h2 h3
    omega
  have h4 := Nat.shiftLeft_xor_distrib (a := 2 * (r / 2)) (b := 1) (i := i)
  simp only [Nat.shiftLeft_eq, Nat.one_mul] at h4
  calc r * 2 ^ i = ((2 * (r / 2)) ^^^ 1) * 2 ^ i := by rw [← h1]
    _ = (2 * (r / 2)) * 2 ^ i ^^^ 2 ^ i := h4
    _ = (r / 2) * 2 ^ (i + 1) ^^^ 2 ^ i := by rw [Nat.pow_succ, Nat.mul_comm 2 (r / 2), Nat.mul_assoc, Nat.mul_comm 2 (2 ^ i)]
theorem onL_rep {t : List Int} {m : Nat} (h : Rep t m) (f : Nat) : ∀ (i r out : Nat), i + f = 32 → r < 2 ^ f → out < 4294967296 → onL f t i (r : Int) (out : Int) = ((out ^^^ sK m (r * 2 ^ i) : Nat) : Int) := by
  induction f with
  | zero =>
    intro i r out hi hr ho
    have hz : r = 0 := by simp at hr; omega
    subst hz
    simp [onL, sK_zero]
  | succ f ih =>
    intro i r out hi hr ho
    by_cases hz : r = 0
    · subst hz
      simp [onL, sK_zero]
    · have hlt : i < 32 := by omega
      have hr32 : r < 4294967296 := Nat.lt_of_lt_of_le hr (Nat.pow_le_pow_right (n := 2) (i := f + 1) (j := 32) (by decide) (by omega))
      have hr2 : r / 2 < 2 ^ f := by rw [Nat.pow_succ] at hr; omega
      have hb := sK_lt m _ (two_pow_lt32 i hlt)
      rw [onL, if_neg (by omega), and1_u32 r hr32, h.bit i hlt]
      have e : (r : Int) / 2 = ((r / 2 : Nat) : Int) := by omega
      rw [e]
      by_cases h1 : r % 2 = 1
      · rw [if_pos (by omega), xor_u32 out _ ho hb, ih (i + 1) (r / 2) _ (by omega) hr2 (Nat.xor_lt_two_pow (n := 32) ho hb), odd_split r i h1, sK_xor, Nat.xor_assoc, Nat.xor_comm (sK m (2 ^ i))]
      · rw [if_neg (by omega), ih (i + 1) (r / 2) out (by omega) hr2 ho]
        have e2 : r / 2 * 2 ^ (i + 1) = r * 2 ^ i := by
          have h3 : r = r / 2 * 2 := by omega
          rw [Nat.pow_succ, Nat.mul_comm (2 ^ i) 2, ← Nat.mul_assoc, ← h3]
        rw [e2]
theorem onT_rep {t : List Int} {m : Nat} (h : Rep t m) (r : Nat) (hr : r < 4294967296) : onT t (r : Int) = ((sK m r : Nat) : Int) := by
  have := onL_rep h 32 0 r 0 (by omega) hr (by omega)
  rw [Nat.zero_xor, Nat.pow_zero, Nat.mul_one] at this
  exact this
theorem Rep.twice {t : List Int} {m : Nat} (h : Rep t m) : Rep (tw t) (m + m) := by
  refine ⟨by simp [tw, h.len], fun i hi => ?_⟩
  have hl := h.len
  have e : gt (tw t) i = onT t (gt t i) := by simp [gt, tw, hl, hi]
  rw [e, h.bit i hi, onT_rep h _ (sK_lt m _ (two_pow_lt32 i hi)), sK_add]

/-- Where the three variables that the step captures stand. -/
structure Vars (w : World) (bn bt br : Nat) (n : Int) (t : List Int) (a : Int) : Prop where
  n : w.heap[bn]? = some (.cells #[.int .i64 n] 3 (0, 0))
  t : w.heap[bt]? = some (.cells (u32s t) 43 (0, 0))
  r : w.heap[br]? = some (.cells #[.int .u32 a] 23 (0, 0))
theorem Vars.drewN {w : World} {bn bt br : Nat} {n : Int} {t : List Int} {a : Int} (h : Vars w bn bt br n t a) (k : Nat) : Vars (w.drewN k) bn bt br n t a := ⟨h.n, h.t, h.r⟩
theorem Vars.below {w w1 : World} {bn bt br : Nat} {n : Int} {t : List Int} {a : Int} (h : Vars w bn bt br n t a) (hb : Below w.heap.size w w1) : Vars w1 bn bt br n t a :=
  ⟨(hb.block _ (blk_lt h.n)).trans h.n, (hb.block _ (blk_lt h.t)).trans h.t, (hb.block _ (blk_lt h.r)).trans h.r⟩
theorem Vars.setR {w : World} {bn bt br : Nat} {n : Int} {t : List Int} {a : Int} (h : Vars w bn bt br n t a) (x : Int) : Vars (w.setCell ⟨br, 0, none⟩ (.int .u32 x)) bn bt br n t x :=
  ⟨blk_far h.n (blk_ne h.n h.r (by decide)) _, blk_far h.t (blk_ne h.t h.r (by decide)) _, by simpa using blk_set h.r 0 (.int .u32 x)⟩
theorem Vars.setN {w : World} {bn bt br : Nat} {n : Int} {t : List Int} {a : Int} (h : Vars w bn bt br n t a) (x : Int) : Vars (w.setCell ⟨bn, 0, none⟩ (.int .i64 x)) bn bt br x t a :=
  ⟨by simpa using blk_set h.n 0 (.int .i64 x), blk_far h.t (blk_ne h.t h.n (by decide)) _, blk_far h.r (blk_ne h.r h.n (by decide)) _⟩
theorem Vars.setT {w : World} {bn bt br : Nat} {n : Int} {t : List Int} {a : Int} (h : Vars w bn bt br n t a) (t' : List Int) : Vars (w.setRow bt (u32s t')) bn bt br n t' a :=
  ⟨(setRow_other w bt bn _ (blk_ne h.n h.t (by decide))).trans h.n, setRow_heap w bt _ _ _ _ h.t, (setRow_other w bt br _ (blk_ne h.r h.t (by decide))).trans h.r⟩

theorem and1_i64 (n : Int) (h0 : 0 ≤ n) (h1 : n ≤ 9223372036854775807) : Go.bits .and .i64 n 1 = n % 2 := by
  have h := bits_mask .i64 63 (by decide) (fun n h0 h1 => by rw [IntKind.wrap_i64]; omega) 1 (by decide) n h0 (by omega)
  simpa using h

set_option maxHeartbeats 1000000 in
set_option maxRecDepth 100000 in
theorem step_calls (B bn bt br : Nat) (n : Int) (t : List Int) (m : Nat) (a a' : Nat) (hm : Rep t m) (hn : 0 ≤ n) (hn1 : n ≤ 9223372036854775807) (ha : a < 4294967296) (ha' : a' = if n % 2 = 1 then sK m a else a) (w : World) (hv : Vars w bn bt br n t a) (hBn : B ≤ bn) (hBt : B ≤ bt) (hBr : B ≤ br) (hB : B ≤ w.heap.size) :
    Calls Try.prog 23 #[.pointer (some ⟨bn, 0, none⟩), .pointer (some ⟨bt, 0, none⟩), .pointer (some ⟨br, 0, none⟩)] w fun e w' => e = .returned (.tuple #[]) ∧ Vars w' bn bt br (n / 2) (tw t) (a' : Int) ∧ Below B w w' := by
  have hcn : w.cell? ⟨bn, 0, none⟩ = some (.int .i64 n) := blk_cell hv.n 0
  have HV := Aside0.mk hv
  have HL := Aside0.mk hm
  have HA := Aside0.mk ha'
  have HM := Aside0.mk (and1_i64 n hn hn1)
  clear hv hm ha'
  have hB' : ∀ x : Int, Below B w (w.setCell ⟨br, 0, none⟩ (.int .u32 x)) := fun x => (Below.refl B w).setCell hBr _
  by_cases hb : Go.bits .and .i64 n 1 = 1
  · have hb0 : (Go.bits .and .i64 n 1 == 1) = true := beq_iff_eq.mpr hb
    have HH := Aside0.mk hb
    clear hb
    have hcr : w.cell? ⟨br, 0, none⟩ = some (.int .u32 (a : Int)) := blk_cell HV.out.r 0
    have hfr : w.frozen? ⟨br, 0, none⟩ = false := blk_frozen HV.out.r 0
    go_enter Try.func23, Try.ntmps23
    go_wp2_with (first
      | (go_at_call 24; refine (on_calls bt t HL.out.len (a : Int) (by omega) (by omega) _ HV.out.t).mono ?_; rintro e w' ⟨rfl, ⟨nd, rfl⟩⟩)
      | (go_at_call 25; refine (twice_calls bt t HL.out.len HL.out.range _ (((HV.out.setR (onT t a)).drewN nd)).t).mono ?_; rintro e w1 ⟨rfl, hb1⟩; have V1 := Aside0.mk ((((HV.out.setR (onT t a)).drewN nd)).below hb1); have HB1 := Aside0.mk (Below.trans (pw_below_drewN (hB' (onT t a)) nd) (hb1.mono (by first | omega | (simp; omega)))); have V2 := Aside0.mk (V1.out.setT (tw t)); have hcn2 := blk_cell V2.out.n 0; have hfn2 := blk_frozen V2.out.n 0; clear hb1)
      | ((with_reducible refine gate_ (.store 43 (.tmp 1) (.tmp 8)) rfl ?_); refine wpList_store_row rfl 43 (.tmp 1) (.tmp 8) rfl bt (u32s (tw t)) rfl rfl 43 (u32s t) V1.out.t (by rw [u32s_size]; exact (HL.out.twice.len).symm ▸ size_turn) (by rw [u32s_size, u32s_size, HL.out.len, HL.out.twice.len]) (u32s_one _) ?_))
    have he : (a' : Int) = onT t (a : Int) := by rw [onT_rep HL.out a ha, HA.out, if_pos (by have := HM.out; have := HH.out; omega)]
    have HE := Aside0.mk he
    clear he hb0
    go_end0
    exact ⟨rfl, HE.out ▸ V2.out.setN (n / 2), (below_row HB1.out hBt _).setCell hBn _⟩
  · have hb0 : (Go.bits .and .i64 n 1 == 1) = false := beq_eq_false_iff_ne.mpr hb
    have HH := Aside0.mk hb
    clear hb
    go_enter Try.func23, Try.ntmps23
    go_wp2_with (first
      | (go_at_call 25; refine (twice_calls bt t HL.out.len HL.out.range _ HV.out.t).mono ?_; rintro e w1 ⟨rfl, hb1⟩; have V1 := Aside0.mk ((HV.out).below hb1); have HB1 := Aside0.mk (Below.trans (Below.refl B w) (hb1.mono (by first | omega | (simp; omega)))); have V2 := Aside0.mk (V1.out.setT (tw t)); have hcn2 := blk_cell V2.out.n 0; have hfn2 := blk_frozen V2.out.n 0; clear hb1)
      | ((with_reducible refine gate_ (.store 43 (.tmp 1) (.tmp 8)) rfl ?_); refine wpList_store_row rfl 43 (.tmp 1) (.tmp 8) rfl bt (u32s (tw t)) rfl rfl 43 (u32s t) V1.out.t (by rw [u32s_size]; exact (HL.out.twice.len).symm ▸ size_turn) (by rw [u32s_size, u32s_size, HL.out.len, HL.out.twice.len]) (u32s_one _) ?_))
    have he : a' = a := by rw [HA.out, if_neg (by have := HM.out; have := HH.out; omega)]
    have HE := Aside0.mk he
    clear he hb0
    go_end0
    exact ⟨rfl, HE.out ▸ V2.out.setN (n / 2), (below_row HB1.out hBt _).setCell hBn _⟩

end Go.Proofs.Ytnlimhjbdgbcoaa.Q
