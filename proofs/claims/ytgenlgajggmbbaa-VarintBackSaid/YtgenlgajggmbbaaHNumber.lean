/- The contract of varint.Number. -/
import Derived.Test.YtgenlgajggmbbaaHBytes
namespace Go.Proofs.Ytgenlgajggmbbaa.Q
open Go.RowKit Go.Proofs.YtgenlgajggmbbaaW.PrintWords Go.Proofs.YtgenlgajggmbbaaW.PrintLast Go.Proofs.YtgenlgajggmbbaaW.PrintMore
set_option linter.unusedVariables false
set_option linter.unusedSimpArgs false

/-- A number without a sign: 0, -1, 1, -2 .. become 0, 1, 2, 3 .. -/
def zig (n : Int) : Nat := if n < 0 then (-2 * n - 1).toNat else (2 * n).toNat
/-- Digits of the base 128, the lowest first, each but the last with 128 more. -/
def digL : Nat → Nat → List Nat
  | 0, _ => []
  | f + 1, u => if u < 128 then [u] else (u % 128 + 128) :: digL f (u / 128)
def ints (l : List Nat) : List Int := l.map fun (n : Nat) => (n : Int)
def numB (n : Int) : ByteArray := strOfNums (ints (digL 10 (zig n)))
theorem zig_lt (n : Int) (h0 : -9223372036854775808 ≤ n) (h1 : n ≤ 9223372036854775807) : zig n < 18446744073709551616 := by
  unfold zig
  split <;> omega
def varint_Number.f (a0 : Int) : Option ByteArray := if -9223372036854775808 ≤ a0 ∧ a0 ≤ 9223372036854775807 then some (numB a0) else none

theorem xor_max64 (x : Nat) (hx : x < 18446744073709551616) : Go.bits .xor .u64 18446744073709551615 (x : Int) = 18446744073709551615 - (x : Int) := by
  have h64 : (18446744073709551615 ^^^ x : Nat) = 18446744073709551615 - x := by
    have : (18446744073709551615 : Nat) = 2 ^ 64 - 1 := rfl
    rw [this]
    apply Nat.eq_of_testBit_eq
    intro j
    rw [Nat.testBit_xor, Nat.testBit_two_pow_sub_one, Nat.sub_sub, Nat.add_comm 1 x, Nat.testBit_two_pow_sub_succ (by omega)]
    by_cases hj : j < 64
    · simp [hj]
    · have : x.testBit j = false := Nat.testBit_lt_two_pow (Nat.lt_of_lt_of_le hx (Nat.pow_le_pow_right (n := 2) (i := 64) (j := j) (by decide) (by omega)))
      simp [hj, this]
  have e1 : (18446744073709551615 : Int) = ((18446744073709551615 : Nat) : Int) := rfl
  unfold Go.bits
  rw [e1]
  simp only [BitVec.ofInt_natCast, BitVec.toNat_xor, BitVec.toNat_ofNat]
  have e2 : x % 2 ^ IntKind.u64.bits = x := Nat.mod_eq_of_lt hx
  have e3 : 18446744073709551615 % 2 ^ IntKind.u64.bits = 18446744073709551615 := by decide
  rw [e2, e3, h64]
  have : IntKind.u64.wrap ((18446744073709551615 - x : Nat) : Int) = ((18446744073709551615 - x : Nat) : Int) := by
    simp [IntKind.wrap, IntKind.bits, IntKind.signed]
    omega
  rw [this]
  omega
theorem or128 (u : Nat) : Go.bits .or .u8 ((u : Int) % 256) 128 = ((u % 128 + 128 : Nat) : Int) := by
  have h := (bits_nat .u8 8 (by decide) wraps_u8 (u % 256) 128 (by omega) (by omega)).2
  have e : ((u % 256 : Nat) : Int) = (u : Int) % 256 := by omega
  rw [e] at h
  have e2 : ((128 : Nat) : Int) = 128 := rfl
  rw [e2] at h
  rw [h]
  have h2 : u % 256 ||| 128 = u % 128 + 128 := by
    have h3 : u % 128 + 128 = 128 ||| u % 128 := by
      have := Nat.two_pow_add_eq_or_of_lt (i := 7) (show u % 128 < 2 ^ 7 by omega) 1
      rw [Nat.mul_one] at this
      have e7 : (2 : Nat) ^ 7 = 128 := rfl
      rw [e7] at this
      omega
    rw [h3]
    apply Nat.eq_of_testBit_eq
    intro j
    rw [Nat.testBit_or, Nat.testBit_or]
    have e256 : (256 : Nat) = 2 ^ 8 := rfl
    have e128 : (128 : Nat) = 2 ^ 7 := rfl
    rw [e256, e128, Nat.testBit_mod_two_pow, Nat.testBit_mod_two_pow, Nat.testBit_two_pow]
    by_cases h7 : j = 7
    · subst h7; simp
    · by_cases hj : j < 7
      · simp [hj, show j < 8 by omega, Bool.or_comm]
      · simp [hj, show ¬ j < 8 by omega]
  rw [h2]

/-- Bytes as a memory row. -/
def u8s (t : List Int) : Array Value := (t.map (Value.int .u8)).toArray
/-- What stands in the ten bytes when some digits are laid. -/
def tens (pre : List Nat) : List Int := ints pre ++ List.replicate (10 - pre.length) 0
theorem tens_length (pre : List Nat) (h : pre.length ≤ 10) : (tens pre).length = 10 := by simp [tens, ints]; omega
theorem tens_set (pre : List Nat) (x : Nat) (h : pre.length < 10) : (u8s (tens pre)).setIfInBounds pre.length (.int .u8 (x : Int)) = u8s (tens (pre ++ [x])) := by
  have e : (tens pre).set pre.length (x : Int) = tens (pre ++ [x]) := by
    have h2 : (ints pre).length = pre.length := by simp [ints]
    have h3 : 10 - pre.length = (10 - (pre.length + 1)) + 1 := by omega
    unfold tens
    rw [List.set_append_right _ _ (by omega), h2, Nat.sub_self, h3, List.replicate_succ, List.set_cons_zero]
    simp [ints]
  rw [← e]
  simp [u8s, List.map_set]
theorem u8s_cell {w : World} {b T : Nat} {t : List Int} (hb : w.heap[b]? = some (.cells (u8s t) T (0, 0))) (i : Nat) (hi : i < t.length) : w.cell? ⟨b, i, none⟩ = some (.int .u8 (t.getD i 0)) := by
  rw [cell_of_row w b i _ T _ hb]
  simp [u8s, hi]
theorem u8s_zero : u8s (tens []) = #[.int .u8 0, .int .u8 0, .int .u8 0, .int .u8 0, .int .u8 0, .int .u8 0, .int .u8 0, .int .u8 0, .int .u8 0, .int .u8 0] := by
  simp [u8s, tens, ints, List.replicate_succ]

theorem wrap_u64 (n : Int) : IntKind.u64.wrap n = n % 18446744073709551616 := by simp [IntKind.wrap, IntKind.bits, IntKind.signed]
theorem zig_pos (n : Int) (h0 : ¬ n < 0) (h1 : n ≤ 9223372036854775807) : IntKind.u64.wrap (IntKind.u64.wrap n * 2) = ((zig n : Nat) : Int) := by
  rw [wrap_u64, wrap_u64, zig, if_neg h0]
  omega
theorem zig_neg (n : Int) (h0 : n < 0) (h1 : -9223372036854775808 ≤ n) : Go.bits .xor .u64 IntKind.u64.max (IntKind.u64.wrap (IntKind.u64.wrap n * 2)) = ((zig n : Nat) : Int) := by
  have e : IntKind.u64.wrap (IntKind.u64.wrap n * 2) = (((2 * n + 18446744073709551616).toNat : Nat) : Int) := by
    rw [wrap_u64, wrap_u64]
    omega
  have e2 : IntKind.u64.max = 18446744073709551615 := rfl
  rw [e, e2, xor_max64 _ (by omega), zig, if_pos h0]
  omega
/-- So many digits are left. -/
def Room (u m : Nat) : Prop := u < 2 ^ (64 - 7 * m)
theorem Room.next {u m : Nat} (h : Room u m) (hu : 128 ≤ u) : m ≤ 8 ∧ Room (u / 128) (m + 1) := by
  unfold Room at *
  have hm : m ≤ 8 := by
    rcases Nat.lt_or_ge m 9 with h9 | h9
    · omega
    · have : 2 ^ (64 - 7 * m) ≤ 2 ^ 1 := Nat.pow_le_pow_right (by decide) (by omega)
      omega
  refine ⟨hm, ?_⟩
  have e : 64 - 7 * m = (64 - 7 * (m + 1)) + 7 := by omega
  rw [e, Nat.pow_add] at h
  have : u / 128 < 2 ^ (64 - 7 * (m + 1)) := Nat.div_lt_of_lt_mul (by rw [Nat.mul_comm]; exact h)
  exact this
theorem digL_more (f u : Nat) (h : 128 ≤ u) : digL (f + 1) u = (u % 128 + 128) :: digL f (u / 128) := by rw [digL, if_neg (by omega)]
theorem digL_last (f u : Nat) (h : u < 128) : digL (f + 1) u = [u] := by rw [digL, if_pos h]

theorem array_len : Try.prog.arrayLen 50 = 10 := by kernel_rfl
theorem array_elem (W : World) : (sizeOf (Try.prog.elem 50)).run Try.prog W = .ok 1 W := by kernel_rfl
theorem slice_ten (g m : Nat) (hm : m < 10) (W : World) : (Instr.sliceAt 50 (.pointer (some ⟨g, 0, none⟩)) none (some (.int .i64 ((m : Int) + 1))) none).run Try.prog W = .ok (.slice (some ⟨g, 0, none⟩) (m + 1) 10) W := by
  have h := run_sliceAt_array_h (P := Try.prog) W 50 ⟨g, 0, none⟩ Try.underlying50 .i64 ((m : Int) + 1) (by omega) (by rw [array_len]; omega)
  have e : ((m : Int) + 1).toNat = m + 1 := by omega
  rw [h, array_len, e, array_elem]
  simp [slicedAt]
  exact add_plain g 0

set_option maxHeartbeats 2000000 in
set_option maxRecDepth 100000 in
theorem varint_Number.calls (a0 : Int) (r : ByteArray) (w : World) (h : varint_Number.f a0 = some r) :
    Calls Try.prog 10 #[.int .i64 a0] w fun e w' => e = .returned (.string r) ∧ Below w.heap.size w w' := by
  unfold varint_Number.f at h
  split at h
  case isFalse => cases h
  case isTrue hr =>
  obtain rfl := Option.some.inj h
  have HR := Aside0.mk hr
  have HZ := Aside0.mk (zig_lt a0 hr.1 hr.2)
  have HP := Aside0.mk (fun h => zig_pos a0 h hr.2)
  have HN := Aside0.mk (fun h => zig_neg a0 h hr.1)
  clear hr h
  unfold numB
  generalize zig a0 = z at HZ HP HN
  by_cases hn : a0 < 0
  · have HE := Aside0.mk (HN.out hn)
    go_enter Try.func10, Try.ntmps10
    go_wp2
    rw [HE.out]
    clear HE HN HP HR
    rw [← u8s_zero]
    have HB0 := Aside0.mk (below_alloc (Below.refl w.heap.size w) (.cells (u8s (tens [])) 50))
    go_loopg [3, 5] 10 (fun kq v3 v5 wr => ∃ (u : Nat) (pre : List Nat), v3 = .int .u64 u ∧ v5 = .int .i64 pre.length ∧ Aside0 (pre.length + kq = 10 ∧ 1 ≤ kq ∧ Room u pre.length) ∧ Aside0 (digL 10 z = pre ++ digL kq u) ∧ Aside0 (wr.heap[w.heap.size]? = some (.cells (u8s (tens pre)) 50 (0, 0))) ∧ Aside0 (Below w.heap.size w wr))
    case atStart => exact ⟨z, [], rfl, rfl, ⟨rfl, by decide, HZ.out⟩, ⟨rfl⟩, ⟨heap_alloc_new w _⟩, HB0⟩
    case round =>
      clear HB0 HZ
      obtain ⟨u, pre, rfl, rfl, HK, HD, HO, HW⟩ := hrel
      obtain ⟨kq, rfl⟩ : ∃ m, gk = m + 1 := ⟨gk - 1, by have := HK.out; omega⟩
      obtain ⟨m, hm⟩ : ∃ m, m = pre.length := ⟨_, rfl⟩
      rw [← hm]
      have hm10 : m < 10 := by have := HK.out; omega
      have hc2 := u8s_cell HO.out m (by rw [tens_length pre (by omega)]; exact hm10)
      have hf2 := blk_frozen HO.out m
      have HMm := Aside0.mk hm
      clear hm
      by_cases hu : 128 ≤ u
      · have HV : Aside0 (Go.bits .or .u8 ((u : Int) % 256) 128 = ((u % 128 + 128 : Nat) : Int)) := ⟨or128 u⟩
        go_wp2
        have hroom := HK.out.2.2.next hu
        have HO1 : Aside0 ((wr.setCell ⟨w.heap.size, m, none⟩ (.int .u8 (Go.bits .or .u8 ((u : Int) % 256) 128))).heap[w.heap.size]? = some (.cells (u8s (tens (pre ++ [u % 128 + 128]))) 50 (0, 0))) := ⟨by
          rw [HV.out, HMm.out, ← tens_set pre _ (by rw [← HMm.out]; exact hm10)]
          exact blk_set HO.out _ _⟩
        have HW1 : Aside0 (Below w.heap.size w (wr.setCell ⟨w.heap.size, m, none⟩ (.int .u8 (Go.bits .or .u8 ((u : Int) % 256) 128)))) := ⟨below_set HW.out (Nat.le_refl _)⟩
        have hlen : (pre ++ [u % 128 + 128]).length = m + 1 := by rw [List.length_append, ← HMm.out]; rfl
        have hk1 : 1 ≤ kq := by have := HK.out; have := HMm.out; omega
        obtain ⟨k2, rfl⟩ : ∃ k2, kq = k2 + 1 := ⟨kq - 1, by omega⟩
        go_roundg (k2 + 1)
        case measure => omega
        case rel => exact ⟨u / 128, pre ++ [u % 128 + 128], by go_num, by rw [hlen]; go_num, ⟨by rw [hlen]; have := HK.out; have := HMm.out; omega, by omega, by rw [hlen, HMm.out]; exact hroom.2⟩, ⟨by rw [HD.out, digL_more _ _ hu, List.append_assoc]; rfl⟩, HO1, HW1⟩
      · have hsl := slice_ten w.heap.size m hm10 (wr.setCell ⟨w.heap.size, m, none⟩ (.int .u8 (u : Int)))
        have hcs : (convert 51 9 (.slice (some ⟨w.heap.size, 0, none⟩) (m + 1) 10)).run Try.prog (wr.setCell ⟨w.heap.size, m, none⟩ (.int .u8 (u : Int))) = .ok (.string (strOfNums (ints (pre ++ [u])))) (wr.setCell ⟨w.heap.size, m, none⟩ (.int .u8 (u : Int))) := by
          have hlen : (pre ++ [u]).length = m + 1 := by rw [List.length_append, ← HMm.out]; rfl
          refine run_convert_bytes_arg _ 51 5 Try.underlying51 Try.underlying5 w.heap.size 0 (m + 1) 10 (ints (pre ++ [u])) (by rw [ints, List.length_map, hlen]) (fun i hi => ?_) 9 Try.underlying9
          have hb : (wr.setCell ⟨w.heap.size, m, none⟩ (.int .u8 (u : Int))).heap[w.heap.size]? = some (.cells (u8s (tens (pre ++ [u]))) 50 (0, 0)) := by
            rw [HMm.out, ← tens_set pre u (by rw [← HMm.out]; exact hm10)]
            exact blk_set HO.out _ _
          rw [Nat.zero_add, u8s_cell hb i (by rw [tens_length _ (by omega)]; omega)]
          congr 2
          simp only [List.getD_eq_getElem?_getD, tens]
          rw [List.getElem?_append_left (by rw [ints, List.length_map, hlen]; exact hi)]
        have HU := Aside0.mk hu
        have HC := Aside0.mk hcs
        clear hcs
        have hcs := HC.out
        go_wp2
        go_ret
        refine ⟨ret_str ?_, below_set HW.out (Nat.le_refl _)⟩
        rw [HD.out, digL_last _ _ (by have := HU.out; omega)]
  · have HE := Aside0.mk (HP.out hn)
    go_enter Try.func10, Try.ntmps10
    go_wp2
    rw [HE.out]
    clear HE HN HP HR
    rw [← u8s_zero]
    have HB0 := Aside0.mk (below_alloc (Below.refl w.heap.size w) (.cells (u8s (tens [])) 50))
    go_loopg [3, 5] 10 (fun kq v3 v5 wr => ∃ (u : Nat) (pre : List Nat), v3 = .int .u64 u ∧ v5 = .int .i64 pre.length ∧ Aside0 (pre.length + kq = 10 ∧ 1 ≤ kq ∧ Room u pre.length) ∧ Aside0 (digL 10 z = pre ++ digL kq u) ∧ Aside0 (wr.heap[w.heap.size]? = some (.cells (u8s (tens pre)) 50 (0, 0))) ∧ Aside0 (Below w.heap.size w wr))
    case atStart => exact ⟨z, [], rfl, rfl, ⟨rfl, by decide, HZ.out⟩, ⟨rfl⟩, ⟨heap_alloc_new w _⟩, HB0⟩
    case round =>
      clear HB0 HZ
      obtain ⟨u, pre, rfl, rfl, HK, HD, HO, HW⟩ := hrel
      obtain ⟨kq, rfl⟩ : ∃ m, gk = m + 1 := ⟨gk - 1, by have := HK.out; omega⟩
      obtain ⟨m, hm⟩ : ∃ m, m = pre.length := ⟨_, rfl⟩
      rw [← hm]
      have hm10 : m < 10 := by have := HK.out; omega
      have hc2 := u8s_cell HO.out m (by rw [tens_length pre (by omega)]; exact hm10)
      have hf2 := blk_frozen HO.out m
      have HMm := Aside0.mk hm
      clear hm
      by_cases hu : 128 ≤ u
      · have HV : Aside0 (Go.bits .or .u8 ((u : Int) % 256) 128 = ((u % 128 + 128 : Nat) : Int)) := ⟨or128 u⟩
        go_wp2
        have hroom := HK.out.2.2.next hu
        have HO1 : Aside0 ((wr.setCell ⟨w.heap.size, m, none⟩ (.int .u8 (Go.bits .or .u8 ((u : Int) % 256) 128))).heap[w.heap.size]? = some (.cells (u8s (tens (pre ++ [u % 128 + 128]))) 50 (0, 0))) := ⟨by
          rw [HV.out, HMm.out, ← tens_set pre _ (by rw [← HMm.out]; exact hm10)]
          exact blk_set HO.out _ _⟩
        have HW1 : Aside0 (Below w.heap.size w (wr.setCell ⟨w.heap.size, m, none⟩ (.int .u8 (Go.bits .or .u8 ((u : Int) % 256) 128)))) := ⟨below_set HW.out (Nat.le_refl _)⟩
        have hlen : (pre ++ [u % 128 + 128]).length = m + 1 := by rw [List.length_append, ← HMm.out]; rfl
        have hk1 : 1 ≤ kq := by have := HK.out; have := HMm.out; omega
        obtain ⟨k2, rfl⟩ : ∃ k2, kq = k2 + 1 := ⟨kq - 1, by omega⟩
        go_roundg (k2 + 1)
        case measure => omega
        case rel => exact ⟨u / 128, pre ++ [u % 128 + 128], by go_num, by rw [hlen]; go_num, ⟨by rw [hlen]; have := HK.out; have := HMm.out; omega, by omega, by rw [hlen, HMm.out]; exact hroom.2⟩, ⟨by rw [HD.out, digL_more _ _ hu, List.append_assoc]; rfl⟩, HO1, HW1⟩
      · have hsl := slice_ten w.heap.size m hm10 (wr.setCell ⟨w.heap.size, m, none⟩ (.int .u8 (u : Int)))
        have hcs : (convert 51 9 (.slice (some ⟨w.heap.size, 0, none⟩) (m + 1) 10)).run Try.prog (wr.setCell ⟨w.heap.size, m, none⟩ (.int .u8 (u : Int))) = .ok (.string (strOfNums (ints (pre ++ [u])))) (wr.setCell ⟨w.heap.size, m, none⟩ (.int .u8 (u : Int))) := by
          have hlen : (pre ++ [u]).length = m + 1 := by rw [List.length_append, ← HMm.out]; rfl
          refine run_convert_bytes_arg _ 51 5 Try.underlying51 Try.underlying5 w.heap.size 0 (m + 1) 10 (ints (pre ++ [u])) (by rw [ints, List.length_map, hlen]) (fun i hi => ?_) 9 Try.underlying9
          have hb : (wr.setCell ⟨w.heap.size, m, none⟩ (.int .u8 (u : Int))).heap[w.heap.size]? = some (.cells (u8s (tens (pre ++ [u]))) 50 (0, 0)) := by
            rw [HMm.out, ← tens_set pre u (by rw [← HMm.out]; exact hm10)]
            exact blk_set HO.out _ _
          rw [Nat.zero_add, u8s_cell hb i (by rw [tens_length _ (by omega)]; omega)]
          congr 2
          simp only [List.getD_eq_getElem?_getD, tens]
          rw [List.getElem?_append_left (by rw [ints, List.length_map, hlen]; exact hi)]
        have HU := Aside0.mk hu
        have HC := Aside0.mk hcs
        clear hcs
        have hcs := HC.out
        go_wp2
        go_ret
        refine ⟨ret_str ?_, below_set HW.out (Nat.le_refl _)⟩
        rw [HD.out, digL_last _ _ (by have := HU.out; omega)]

end Go.Proofs.Ytgenlgajggmbbaa.Q
