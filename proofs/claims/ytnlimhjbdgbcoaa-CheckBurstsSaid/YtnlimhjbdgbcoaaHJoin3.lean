/- check.Join itself: the loop that makes the first turn, and the loop of steps. -/
import Derived.Test.YtnlimhjbdgbcoaaHJoin2
namespace Go.Proofs.Ytnlimhjbdgbcoaa.Q
open Go.RowKit Go.Proofs.YtnlimhjbdgbcoaaW.PrintWords Go.Proofs.YtnlimhjbdgbcoaaW.PrintLast Go.Proofs.YtnlimhjbdgbcoaaW.PrintMore Go.Proofs.Ytnlimhjbdgbcoaa.Crc
set_option linter.unusedVariables false
set_option linter.unusedSimpArgs false

def T0 : List Int := (List.range 32).map fun i => ((sB (2 ^ i) : Nat) : Int)
theorem T0_length : T0.length = 32 := by simp [T0]
theorem T0_rep : Rep T0 8 := ⟨T0_length, fun i hi => by simp [gt, T0, hi, sB]⟩
/-- What stands there when i of the bits are told. -/
def begun (i : Nat) : List Int := T0.take i ++ List.replicate (32 - i) 0
theorem begun_length (i : Nat) (hi : i ≤ 32) : (begun i).length = 32 := by simp [begun, T0_length]; omega
theorem begun_end : begun 32 = T0 := by simp [begun, List.take_of_length_le (Nat.le_of_eq T0_length)]
theorem begun_set (i : Nat) (hi : i < 32) : (u32s (begun i)).setIfInBounds i (.int .u32 ((sB (2 ^ i) : Nat) : Int)) = u32s (begun (i + 1)) := by
  have e : (begun i).set i ((sB (2 ^ i) : Nat) : Int) = begun (i + 1) := by
    have h1 := T0_length
    have h2 : (T0.take i).length = i := by simp [h1]; omega
    have h3 : 32 - i = (32 - (i + 1)) + 1 := by omega
    unfold begun
    rw [List.set_append_right _ _ (by omega), h2, Nat.sub_self, h3, List.replicate_succ, List.set_cons_zero, List.take_succ_eq_append_getElem (by omega), List.append_assoc]
    congr 1
    simp [T0]
  rw [← e]
  simp [u32s, List.map_set]

def check_Join.f (a0 a1 a2 : Int) : Option (Int × Int) :=
  if a2 < 0 then some (0, 2) else if 0 ≤ a0 ∧ a0 < 4294967296 ∧ 0 ≤ a1 ∧ a1 < 4294967296 ∧ a2 ≤ 9223372036854775807 then some (((joinN a0.toNat a1.toNat a2.toNat : Nat) : Int), 0) else none

/-- What a step keeps. -/
def Left (m n' a N : Nat) : Prop := sK (m * n') a = N
theorem Left.step {m n' a N : Nat} (h : Left m n' a N) : Left (m + m) (n' / 2) (if (n' : Int) % 2 = 1 then sK m a else a) N := by
  unfold Left at *
  rw [← h]
  by_cases h1 : n' % 2 = 1
  · rw [if_pos (by omega), ← sK_add]
    congr 1
    have : n' = 2 * (n' / 2) + 1 := by omega
    calc m + (m + m) * (n' / 2) = m * (2 * (n' / 2) + 1) := by rw [Nat.mul_add, Nat.add_mul, Nat.mul_one, ← Nat.mul_assoc, Nat.mul_comm m 2, Nat.mul_assoc, Nat.two_mul, Nat.add_comm]
      _ = m * n' := by rw [← this]
  · rw [if_neg (by omega)]
    congr 1
    have : n' = 2 * (n' / 2) := by omega
    calc (m + m) * (n' / 2) = m * (2 * (n' / 2)) := by rw [Nat.add_mul, ← Nat.mul_assoc, Nat.mul_comm m 2, Nat.mul_assoc, Nat.two_mul]
      _ = m * n' := by rw [← this]

set_option maxHeartbeats 2000000 in
set_option maxRecDepth 100000 in
theorem check_Join.calls (a0 a1 a2 : Int) (r1 r2 : Int) (w : World) (h : check_Join.f a0 a1 a2 = some (r1, r2)) :
    Calls Try.prog 14 #[.int .u32 a0, .int .u32 a1, .int .i64 a2] w fun e w' => e = .returned (.tuple #[.int .u32 r1, .int .i64 r2]) ∧ Below w.heap.size w w' := by
  unfold check_Join.f at h
  by_cases hn : a2 < 0
  · rw [if_pos hn] at h
    simp only [Option.some.injEq, Prod.mk.injEq] at h
    obtain ⟨rfl, rfl⟩ := h
    go_enter Try.func14, Try.ntmps14
    go_wp2
    go_ret2
    exact ⟨rfl, below_alloc (Below.refl _ _) _⟩
  · rw [if_neg hn] at h
    split at h
    case isFalse => cases h
    case isTrue hr =>
    simp only [Option.some.injEq, Prod.mk.injEq] at h
    obtain ⟨h1, rfl⟩ := h
    obtain ⟨a, rfl⟩ := Int.eq_ofNat_of_zero_le hr.1
    obtain ⟨n, rfl⟩ := Int.eq_ofNat_of_zero_le (by omega : 0 ≤ a2)
    simp only [Int.toNat_natCast] at h1
    have HR := Aside0.mk hr
    have H1 := Aside0.mk h1
    clear hr h1
    have hmf : ∀ (fn : Fn) (first cap : Array Value) (w : World), (Instr.makeFunc fn first cap).run Try.prog w = .ok (.func fn first cap) w := fun _ _ _ _ => rfl
    go_enter Try.func14, Try.ntmps14
    go_wp2
    rw [← u32s_zero]
    have HB0 := Aside0.mk (below_alloc (below_alloc (Below.refl w.heap.size w) (.cells #[.int .i64 (n : Int)] 3)) (.cells (u32s (List.replicate 32 0)) 43))
    go_loopg [14] 32 (fun kq v14 wr => ∃ (i : Nat), v14 = .int .i64 i ∧ Aside0 (i + kq = 32) ∧ Aside0 (wr.heap[w.heap.size + 1]? = some (.cells (u32s (begun i)) 43 (0, 0))) ∧ Aside0 (wr.heap[w.heap.size]? = some (.cells #[.int .i64 (n : Int)] 3 (0, 0))) ∧ Aside0 (Below w.heap.size w wr))
    case atStart => exact ⟨0, rfl, ⟨rfl⟩, ⟨heap_alloc2_new w _ _⟩, ⟨heap_alloc2_old w _ _⟩, HB0⟩
    case round =>
      clear HB0
      obtain ⟨i, rfl, HI, HO, HZ, HW⟩ := hrel
      have hi := HI.out
      by_cases hlt : i < 32
      · have hc2 := u32s_cell HO.out i (by rw [begun_length i (by omega)]; exact hlt)
        have hf2 := blk_frozen HO.out i
        have HT : Aside0 (check_through.f 9 (2 ^ i % 4294967296) 0 = some ((sB (2 ^ i) : Nat) : Int)) := ⟨by
          have h := through_crc 9 (by omega) (2 ^ i) 0 (two_pow_lt32 i hlt) (by omega)
          rw [Nat.xor_zero] at h
          have e : ((2 : Int) ^ i) = ((2 ^ i : Nat) : Int) := by simp
          have h2 := two_pow_lt32 i hlt
          rw [e]
          clear e
          generalize 2 ^ i = q at h h2
          have e2 : (q : Int) % 4294967296 = (q : Int) := by omega
          rw [e2]
          exact h⟩
        go_wp2_with (first | (go_at_call 21; refine (check_through.calls 9 (2 ^ i % 4294967296) 0 _ _ HT.out).mono ?_; rintro e w' ⟨rfl, ⟨nd, rfl⟩⟩))
        have HO1 : Aside0 ((wr.setCell ⟨w.heap.size + 1, i, none⟩ (.int .u32 ((sB (2 ^ i) : Nat) : Int))).heap[w.heap.size + 1]? = some (.cells (u32s (begun (i + 1))) 43 (0, 0))) := ⟨by rw [← begun_set i hlt]; exact blk_set HO.out i _⟩
        have HZ1 : Aside0 ((wr.setCell ⟨w.heap.size + 1, i, none⟩ (.int .u32 ((sB (2 ^ i) : Nat) : Int))).heap[w.heap.size]? = some (.cells #[.int .i64 (n : Int)] 3 (0, 0))) := ⟨blk_far HZ.out (by simp) _⟩
        have HW1 : Aside0 (Below w.heap.size w (wr.setCell ⟨w.heap.size + 1, i, none⟩ (.int .u32 ((sB (2 ^ i) : Nat) : Int)))) := ⟨below_set HW.out (by omega)⟩
        go_roundg (gk - 1)
        case measure => omega
        case rel => exact ⟨i + 1, by go_num, ⟨by omega⟩, ⟨HO1.out⟩, ⟨HZ1.out⟩, ⟨pw_below_drewN HW1.out _⟩⟩
      · obtain rfl : i = 32 := by omega
        have ho := HO.out
        rw [begun_end] at ho
        have HO' := Aside0.mk ho
        clear ho HO hi HI
        obtain ⟨br, hbr⟩ : ∃ br, br = wr.heap.size := ⟨_, rfl⟩
        have hsz := HW.out.size
        have l1 := blk_lt HZ.out
        have l2 := blk_lt HO'.out
        have HV0 : Aside0 (Vars (wr.alloc (.cells #[.int .u32 (a : Int)] 23)) w.heap.size (w.heap.size + 1) br (n : Int) T0 (a : Int)) := ⟨by rw [heap_alloc_old wr _ l1]; exact HZ.out, by rw [heap_alloc_old wr _ l2]; exact HO'.out, by rw [hbr]; simpa using heap_alloc_new wr _⟩
        have HW0 := Aside0.mk (HW.out.alloc hsz (.cells #[.int .u32 (a : Int)] 23))
        have HBR : Aside0 (w.heap.size ≤ br ∧ a < 4294967296 ∧ n ≤ 9223372036854775807) := ⟨by rw [hbr]; exact hsz, by have := HR.out; omega, by have := HR.out; omega⟩
        go_wp2
        rw [← hbr]
        clear hbr hsz l1 l2 HO' HZ HW hmf
        go_loopg [] n (fun kq w2 => ∃ (n2 a2 m : Nat) (t : List Int), Aside0 (n2 ≤ kq ∧ n2 ≤ n ∧ a2 < 4294967296) ∧ Aside0 (Vars w2 w.heap.size (w.heap.size + 1) br (n2 : Int) t (a2 : Int)) ∧ Aside0 (Rep t m) ∧ Aside0 (Left m n2 a2 (sK (8 * n) a)) ∧ Aside0 (Below w.heap.size w w2))
        case atStart => exact ⟨n, a, 8, T0, ⟨Nat.le_refl _, Nat.le_refl _, HBR.out.2.1⟩, ⟨HV0.out⟩, ⟨T0_rep⟩, ⟨rfl⟩, ⟨HW0.out⟩⟩
        case round =>
          clear HV0 HW0
          obtain ⟨n2, b2, m, t, HN, HV, HP, HF, HB⟩ := hrel
          have hcn : wr.cell? ⟨w.heap.size, 0, none⟩ = some (.int .i64 (n2 : Int)) := blk_cell HV.out.n 0
          by_cases hpos : 0 < n2
          · have HS := Aside0.mk HB.out.size
            go_wp2_with (first | (go_at_call 23; refine (step_calls w.heap.size w.heap.size (w.heap.size + 1) br (n2 : Int) t m b2 _ HP.out (by omega) (by have := HN.out; have := HBR.out; omega) HN.out.2.2 rfl _ HV.out (Nat.le_refl _) (by omega) HBR.out.1 HS.out).mono ?_; rintro e w1 ⟨rfl, hv1, hb1⟩; have HV1 := Aside0.mk hv1; have HB1 := Aside0.mk (HB.out.trans hb1); clear hv1 hb1))
            have hk : n2 / 2 < n2 := by omega
            have hle : (if (n2 : Int) % 2 = 1 then sK m b2 else b2) < 4294967296 := by
              split
              · exact sK_lt m _ HN.out.2.2
              · exact HN.out.2.2
            have e2 : (n2 : Int) / 2 = ((n2 / 2 : Nat) : Int) := by omega
            have HV2 : Aside0 (Vars w1 w.heap.size (w.heap.size + 1) br ((n2 / 2 : Nat) : Int) (tw t) (((if (n2 : Int) % 2 = 1 then sK m b2 else b2 : Nat)) : Int)) := ⟨by rw [← e2]; exact HV1.out⟩
            clear HV1 e2
            go_roundg (gk - 1)
            case measure => have := HN.out; omega
            case rel => exact ⟨n2 / 2, _, m + m, tw t, ⟨by have := HN.out; omega, by have := HN.out; omega, hle⟩, HV2, ⟨HP.out.twice⟩, ⟨HF.out.step⟩, HB1⟩
          · obtain rfl : n2 = 0 := by omega
            have hcr : wr.cell? ⟨br, 0, none⟩ = some (.int .u32 (b2 : Int)) := blk_cell HV.out.r 0
            have hx : Go.bits .xor .u32 (b2 : Int) a1 = r1 := by
              obtain ⟨b, rfl⟩ := Int.eq_ofNat_of_zero_le HR.out.2.2.1
              rw [xor_u32 _ _ HN.out.2.2 (by have := HR.out; omega), ← H1.out]
              have hf := HF.out
              unfold Left at hf
              rw [Nat.mul_zero] at hf
              unfold joinN
              rw [← hf]
              rfl
            have HX := Aside0.mk hx
            clear hx
            go_wp2
            go_ret2
            exact ⟨ret_two (congrArg (Value.int .u32) HX.out) rfl, HB.out⟩

end Go.Proofs.Ytnlimhjbdgbcoaa.Q
