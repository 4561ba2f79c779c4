/- The contract of check.Join, and of the functions on arrays of 32 registers that it leans on. -/
import Derived.Test.YtnlimhjbdgbcoaaHBase
import Derived.Test.YtnlimhjbdgbcoaaQf21
namespace Go.Proofs.Ytnlimhjbdgbcoaa.Q
open Go.RowKit Go.Proofs.YtnlimhjbdgbcoaaW.PrintWords Go.Proofs.YtnlimhjbdgbcoaaW.PrintLast Go.Proofs.YtnlimhjbdgbcoaaW.PrintMore
set_option linter.unusedVariables false
set_option linter.unusedSimpArgs false

/-- A register's values as a memory row. -/
def u32s (t : List Int) : Array Value := (t.map (Value.int .u32)).toArray
/-- What becomes of bit i. -/
def gt (t : List Int) (i : Nat) : Int := t.getD i 0
/-- What becomes of a register by a turn: from bit i on. -/
def onL : Nat → List Int → Nat → Int → Int → Int
  | 0, _, _, _, out => out
  | f + 1, t, i, r, out => if r = 0 then out else onL f t (i + 1) (r / 2) (if Go.bits .and .u32 r 1 = 1 then Go.bits .xor .u32 out (gt t i) else out)
def onT (t : List Int) (r : Int) : Int := onL 32 t 0 r 0

theorem u32s_size (t : List Int) : (u32s t).size = t.length := by simp [u32s]
theorem u32s_cell {w : World} {b T : Nat} {t : List Int} (hb : w.heap[b]? = some (.cells (u32s t) T (0, 0))) (i : Nat) (hi : i < t.length) : w.cell? ⟨b, i, none⟩ = some (.int .u32 (gt t i)) := by
  rw [cell_of_row w b i _ T _ hb]
  simp [u32s, gt, hi]

set_option maxHeartbeats 1000000 in
theorem on_calls (b : Nat) (t : List Int) (hl : t.length = 32) (r : Int) (h0 : 0 ≤ r) (h1 : r < 4294967296) (w : World) (hb : w.heap[b]? = some (.cells (u32s t) 43 (0, 0))) :
    Calls Try.prog 24 #[.pointer (some ⟨b, 0, none⟩), .int .u32 r] w fun e w' => e = .returned (.int .u32 (onT t r)) ∧ Drawn0 w w' := by
  have hcell : ∀ i, i < 32 → w.cell? ⟨b, i, none⟩ = some (.int .u32 (gt t i)) := fun i hi => u32s_cell hb i (by omega)
  have HC := Aside0.mk hcell
  clear hcell hb
  go_enter Try.func24, Try.ntmps24
  go_wp2
  go_loopg [1, 5, 6] 32 (fun kq v1 v5 v6 w' => ∃ (r1 out : Int) (i : Nat), v1 = .int .u32 r1 ∧ v5 = .int .u32 out ∧ v6 = .int .i64 i ∧ Aside0 (i + kq = 32 ∧ 0 ≤ r1 ∧ r1 < 2 ^ kq) ∧ Aside0 (onL kq t i r1 out = onT t r) ∧ Drawn0 w w')
  case atStart => exact ⟨r, 0, 0, rfl, rfl, rfl, ⟨rfl, h0, h1⟩, ⟨rfl⟩, Drawn0.refl _⟩
  case round =>
    obtain ⟨r1, out, i, rfl, rfl, rfl, ⟨hi, hr0, hr1⟩, HA, ⟨m, rfl⟩⟩ := hrel
    cases gk with
    | zero =>
      have hz : r1 = 0 := by simp at hr1; omega
      subst hz
      have h32 : onL 0 t i 0 out = out := rfl
      have HO := Aside0.mk (h32.symm.trans HA.out)
      clear HA h32
      go_wp2
      go_ret
      exact ⟨ret_int HO.out, by repeat (first | exact Drawn0.refl _ | apply Drawn0.step)⟩
    | succ k =>
      by_cases hz : r1 = 0
      · subst hz
        have h32 : onL (k + 1) t i 0 out = out := by rw [onL, if_pos rfl]
        have HO := Aside0.mk (h32.symm.trans HA.out)
        clear HA h32
        go_wp2
        go_ret
        exact ⟨ret_int HO.out, by repeat (first | exact Drawn0.refl _ | apply Drawn0.step)⟩
      · have hlt : i < 32 := by omega
        have hc := HC.out i hlt
        have HH : onL k t (i + 1) (r1 / 2) (if Go.bits .and .u32 r1 1 = 1 then Go.bits .xor .u32 out (gt t i) else out) = onT t r := by
          have h := HA.out
          rwa [onL, if_neg hz] at h
        have hr2 : r1 / 2 < 2 ^ k := by
          rw [Int.pow_succ] at hr1
          omega
        have HP := Aside0.mk (And.intro hr2 hi)
        have hr9 : r1 < 4294967296 := Int.lt_of_lt_of_le hr1 ((by
          have h := Nat.pow_le_pow_right (n := 2) (i := k + 1) (j := 32) (by decide) (by omega)
          have h2 : ((2 : Int) ^ (k + 1)) = ((2 ^ (k + 1) : Nat) : Int) := by simp
          rw [h2]
          omega))
        clear hr1 hr2 hi HA
        by_cases hb : Go.bits .and .u32 r1 1 = 1
        · rw [if_pos hb] at HH
          have HA' := Aside0.mk HH
          clear HH
          have hb0 : (Go.bits .and .u32 r1 1 == 1) = true := beq_iff_eq.mpr hb
          clear hb
          go_wp2
          go_roundg k
          case measure => omega
          case rel => exact ⟨r1 / 2, _, i + 1, rfl, rfl, by go_num, ⟨by have := HP.out.2; omega, by omega, HP.out.1⟩, HA', by repeat (first | exact Drawn0.refl _ | apply Drawn0.step)⟩
        · rw [if_neg hb] at HH
          have HA' := Aside0.mk HH
          clear HH
          have hb0 : (Go.bits .and .u32 r1 1 == 1) = false := beq_eq_false_iff_ne.mpr hb
          clear hb
          go_wp2
          go_roundg k
          case measure => omega
          case rel => exact ⟨r1 / 2, _, i + 1, rfl, rfl, by go_num, ⟨by have := HP.out.2; omega, by omega, HP.out.1⟩, HA', by repeat (first | exact Drawn0.refl _ | apply Drawn0.step)⟩

/-- A turn that is done two times. -/
def tw (t : List Int) : List Int := t.map (onT t)
/-- What stands there when i of the bits are told. -/
def half (t : List Int) (i : Nat) : List Int := (tw t).take i ++ List.replicate (32 - i) 0
theorem half_length (t : List Int) (hl : t.length = 32) (i : Nat) (hi : i ≤ 32) : (half t i).length = 32 := by simp [half, tw, hl]; omega
theorem half_end (t : List Int) (hl : t.length = 32) : half t 32 = tw t := by
  have h : (tw t).length ≤ 32 := by simp [tw, hl]
  simp [half, List.take_of_length_le h]
theorem half_set (t : List Int) (hl : t.length = 32) (i : Nat) (hi : i < 32) : (u32s (half t i)).setIfInBounds i (.int .u32 (onT t (gt t i))) = u32s (half t (i + 1)) := by
  have e : (half t i).set i (onT t (gt t i)) = half t (i + 1) := by
    have h1 : (tw t).length = 32 := by simp [tw, hl]
    have h2 : ((tw t).take i).length = i := by simp [h1]; omega
    have h3 : 32 - i = (32 - (i + 1)) + 1 := by omega
    unfold half
    rw [List.set_append_right _ _ (by omega), h2, Nat.sub_self, h3, List.replicate_succ, List.set_cons_zero, List.take_succ_eq_append_getElem (by omega), List.append_assoc]
    congr 1
    simp [tw, gt, hl, hi]
  rw [← e]
  simp [u32s, List.map_set]
theorem u32s_zero : u32s (List.replicate 32 0) = #[.int .u32 0, .int .u32 0, .int .u32 0, .int .u32 0, .int .u32 0, .int .u32 0, .int .u32 0, .int .u32 0, .int .u32 0, .int .u32 0, .int .u32 0, .int .u32 0, .int .u32 0, .int .u32 0, .int .u32 0, .int .u32 0, .int .u32 0, .int .u32 0, .int .u32 0, .int .u32 0, .int .u32 0, .int .u32 0, .int .u32 0, .int .u32 0, .int .u32 0, .int .u32 0, .int .u32 0, .int .u32 0, .int .u32 0, .int .u32 0, .int .u32 0, .int .u32 0] := by
  simp [u32s, List.replicate_succ]

theorem size_turn : (Try.prog.info? 43).map (·.size) = some 32 := by kernel_rfl
theorem u32s_one (t : List Int) : (u32s t).all (·.oneCell') = true := by simp [u32s, Value.oneCell']
theorem below_ge {w W : World} (h : Below w.heap.size w W) (j : Nat) : w.heap.size ≤ w.heap.size + j := by omega

set_option maxHeartbeats 1000000 in
set_option maxRecDepth 100000 in
theorem twice_calls (b : Nat) (t : List Int) (hl : t.length = 32) (hr : ∀ i, i < 32 → 0 ≤ gt t i ∧ gt t i < 4294967296) (w : World) (hb : w.heap[b]? = some (.cells (u32s t) 43 (0, 0))) :
    Calls Try.prog 25 #[.pointer (some ⟨b, 0, none⟩)] w fun e w' => e = .returned (.agg (u32s (tw t))) ∧ Below w.heap.size w w' := by
  have HB := Aside0.mk hb
  clear hb
  go_enter Try.func25, Try.ntmps25
  have hblt := blk_lt HB.out
  go_wp2
  rw [← u32s_zero]
  have HB0 := Aside0.mk (below_alloc (below_alloc (Below.refl w.heap.size w) (.cells (u32s (List.replicate 32 0)) 43)) (.cells (u32s (List.replicate 32 0)) 43))
  go_loopg [5] 32 (fun kq v5 wr => ∃ (i : Nat), v5 = .int .i64 i ∧ Aside0 (i + kq = 32) ∧ Aside0 (wr.heap[w.heap.size + 1]? = some (.cells (u32s (half t i)) 43 (0, 0))) ∧ Aside0 (wr.heap[w.heap.size]? = some (.cells (u32s (List.replicate 32 0)) 43 (0, 0))) ∧ Aside0 (Below w.heap.size w wr))
  case atStart => exact ⟨0, rfl, ⟨rfl⟩, ⟨heap_alloc2_new w _ _⟩, ⟨heap_alloc2_old w _ _⟩, HB0⟩
  case round =>
    clear HB0
    obtain ⟨i, rfl, HI, HO, HZ, HW⟩ := hrel
    have hi := HI.out
    by_cases hlt : i < 32
    · have hbw : wr.heap[b]? = some (.cells (u32s t) 43 (0, 0)) := (HW.out.block b hblt).trans HB.out
      have hc := u32s_cell hbw i (by omega)
      have HBW := Aside0.mk hbw
      clear hbw
      have hc2 := u32s_cell HO.out i (by rw [half_length t hl i (by omega)]; exact hlt)
      have hf2 := blk_frozen HO.out i
      have HR := Aside0.mk (hr i hlt)
      clear hr
      go_wp2_with (first | (go_at_call 24; refine (on_calls b t hl (gt t i) HR.out.1 HR.out.2 _ HBW.out).mono ?_; rintro e w' ⟨rfl, ⟨nd, rfl⟩⟩))
      have HO1 : Aside0 ((wr.setCell ⟨w.heap.size + 1, i, none⟩ (.int .u32 (onT t (gt t i)))).heap[w.heap.size + 1]? = some (.cells (u32s (half t (i + 1))) 43 (0, 0))) := ⟨by rw [← half_set t hl i hlt]; exact blk_set HO.out i _⟩
      have HZ1 : Aside0 ((wr.setCell ⟨w.heap.size + 1, i, none⟩ (.int .u32 (onT t (gt t i)))).heap[w.heap.size]? = some (.cells (u32s (List.replicate 32 0)) 43 (0, 0))) := ⟨blk_far HZ.out (by simp) _⟩
      have HW1 : Aside0 (Below w.heap.size w (wr.setCell ⟨w.heap.size + 1, i, none⟩ (.int .u32 (onT t (gt t i))))) := ⟨below_set HW.out (by omega)⟩
      go_roundg (gk - 1)
      case measure => omega
      case rel => exact ⟨i + 1, by go_num, ⟨by omega⟩, ⟨HO1.out⟩, ⟨HZ1.out⟩, ⟨pw_below_drewN HW1.out _⟩⟩
    · obtain rfl : i = 32 := by omega
      have ho := HO.out
      rw [half_end t hl] at ho
      have hsz : (u32s (tw t)).size = 32 := by rw [u32s_size]; simp [tw, hl]
      have hsz0 : (u32s (List.replicate 32 0)).size = 32 := by rw [u32s_size]; simp
      have HS := Aside0.mk (And.intro ho (And.intro hsz hsz0))
      clear ho hsz hsz0
      go_wp2_with (first
        | ((with_reducible refine gate_ (.load 43 (.tmp 3)) rfl ?_); refine wpList_load_row rfl 43 (.tmp 3) rfl (w.heap.size + 1) rfl 43 (u32s (tw t)) (0, 0) _ HS.out.1 Try.underlying43 rfl (by rw [HS.out.2.1]; exact size_turn) ?_)
        | ((with_reducible refine gate_ (.store 43 (.tmp 2) (.tmp 18)) rfl ?_); refine wpList_store_row rfl 43 (.tmp 2) (.tmp 18) rfl w.heap.size (u32s (tw t)) rfl rfl 43 (u32s (List.replicate 32 0)) HZ.out (by rw [HS.out.2.1]; exact size_turn) (by rw [HS.out.2.1, HS.out.2.2]) (u32s_one _) ?_))
      exact bodyPost_ret (v := .agg (u32s (tw t))) (results_cell_row Try.results25 _ _ w.heap.size 43 (u32s (tw t)) (0, 0) _ rfl (setRow_heap _ _ _ _ _ _ HZ.out) Try.underlying43 rfl (by rw [HS.out.2.1]; exact size_turn)) rfl ⟨rfl, below_row HW.out (Nat.le_refl _) _⟩

end Go.Proofs.Ytnlimhjbdgbcoaa.Q
