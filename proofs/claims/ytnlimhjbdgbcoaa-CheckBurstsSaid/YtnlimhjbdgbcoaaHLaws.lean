/- The plain laws of chapter 02: what seal, open and the awake test come to. -/
import Derived.Test.YtnlimhjbdgbcoaaHReg
import Derived.Test.YtnlimhjbdgbcoaaHJoin3
import Derived.Test.YtnlimhjbdgbcoaaHSeal
import Derived.Test.YtnlimhjbdgbcoaaQf9
import Derived.Test.YtnlimhjbdgbcoaaQf11
import Derived.Test.YtnlimhjbdgbcoaaQf18
import Derived.Test.YtnlimhjbdgbcoaaQf20
import Derived.Test.YtnlimhjbdgbcoaaQf19
namespace Go.Proofs.Ytnlimhjbdgbcoaa.Q
open Go.RowKit Go.Proofs.YtnlimhjbdgbcoaaW.PrintWords Go.Proofs.YtnlimhjbdgbcoaaW.PrintLast Go.Proofs.YtnlimhjbdgbcoaaW.PrintMore Go.Proofs.Ytnlimhjbdgbcoaa.Crc
set_option linter.unusedVariables false
set_option linter.unusedSimpArgs false

theorem few_spec (s : ByteArray) : ∃ t, surmiselaw02_few.f s = some t ∧ t.size ≤ 3000 := by
  unfold surmiselaw02_few.f
  by_cases h : (s.size : Int) > 3000
  · rw [if_pos h, if_pos (by omega), if_pos (by omega)]
    exact ⟨_, rfl, by rw [ByteArray.size_extract]; omega⟩
  · rw [if_neg h]
    exact ⟨_, rfl, by omega⟩

/-- A number's four bytes, the lowest first. -/
def four (x : Nat) : List Nat := [x % 256, x / 256 % 256, x / 65536 % 256, x / 16777216 % 256]
def fourB (x : Nat) : ByteArray := strOfNums ((four x).map fun (n : Nat) => (n : Int))
theorem four_lt (x : Nat) : ∀ c ∈ four x, c < 256 := by
  intro c hc
  simp only [four, List.mem_cons, List.not_mem_nil, or_false] at hc
  omega
theorem bl_fourB (x : Nat) : bl (fourB x) = four x := by
  unfold fourB
  rw [bl_nums]
  · rw [List.map_map]
    have e : (Int.toNat ∘ fun (n : Nat) => (n : Int)) = id := by funext n; rfl
    rw [e, List.map_id]
  · intro y hy
    rw [List.mem_map] at hy
    obtain ⟨n, hn, rfl⟩ := hy
    have := four_lt x n hn
    omega
theorem val_four (x : Nat) (hx : x < 4294967296) : val (four x) = x := by
  simp only [four, val]
  omega
theorem four_val (l : List Nat) (hl : l.length = 4) (h : ∀ c ∈ l, c < 256) : four (val l) = l ∧ val l < 4294967296 := by
  match l, hl with
  | [a, b, c, d], _ =>
    have ha := h a (by simp)
    have hb := h b (by simp)
    have hc := h c (by simp)
    have hd := h d (by simp)
    simp only [four, val]
    refine ⟨?_, by omega⟩
    simp only [List.cons.injEq, and_true]
    omega
theorem fourB_size (x : Nat) : (fourB x).size = 4 := by
  rw [← bl_length, bl_fourB]
  rfl
theorem bytes_crc (x : Nat) (hx : x < 4294967296) : check_bytes.f (x : Int) = some (fourB x) := by
  unfold check_bytes.f fourB four
  simp only [List.map_cons, List.map_nil]
  congr 2
theorem lowb_four (x : Nat) : lowb (x : Int) 4 = (four x).map fun (n : Nat) => (n : Int) := by
  simp [lowb, four]

theorem seal_crc (s : ByteArray) (hs : s.size ≤ 140737488351232) (k : Nat) (hk : s.size + 9 < k) : check_Seal.f k s = some (s ++ fourB (sumN (bl s))) := by
  unfold check_Seal.f
  rw [sum_crc s hs k hk]
  simp only [Option.bind_some]
  rw [bytes_crc _ (sumN_lt _ (bl_lt s))]
  simp only [Option.bind_some]
  rw [fourB_size, if_pos (by omega)]
theorem refseal_crc (s : ByteArray) (hs : s.size ≤ 140737488351232) (k : Nat) (hk : 10 * s.size < k) : surmiseref02_Seal.f k s = some (s ++ fourB (sumN (bl s))) := by
  unfold surmiseref02_Seal.f
  rw [if_pos hs, refsum_crc s hs k hk]
  simp only [Option.bind_some]
  rw [lowb_four, strOfNums_append, strOfNums_bytesOf]
  rfl

/-- What any bytes are opened as. -/
def openN (s : ByteArray) : ByteArray × Int :=
  if s.size < 4 then (⟨#[]⟩, 5) else if fourB (sumN (bl (s.extract 0 (s.size - 4)))) = s.extract (s.size - 4) s.size then (s.extract 0 (s.size - 4), 0) else (⟨#[]⟩, 7)
theorem open_crc (s : ByteArray) (hs : s.size ≤ 140737488351232) (k : Nat) (hk : s.size + 9 < k) : check_Open.f k s = some (openN s) := by
  unfold check_Open.f openN
  rw [wrap_id (by omega) (by omega)]
  by_cases h : s.size < 4
  · rw [if_pos (by omega), if_pos h]
  · have e : ((s.size : Int) - 4).toNat = s.size - 4 := by omega
    have hsz : (s.extract 0 (s.size - 4)).size = s.size - 4 := by rw [ByteArray.size_extract]; omega
    rw [if_neg (by omega), if_pos (by omega), if_pos (by omega), if_neg h, e, sum_crc _ (by omega) k (by omega)]
    simp only [Option.bind_some]
    rw [bytes_crc _ (sumN_lt _ (bl_lt _))]
    simp only [Option.bind_some, toList_iff]
    split <;> rfl
theorem cut_four (s : ByteArray) (h : ¬ s.size < 4) : s = s.extract 0 (s.size - 4) ++ s.extract (s.size - 4) s.size := by
  apply bl_inj
  rw [bl_append, bl_extract, bl_extract]
  have hl : (bl s).length ≤ s.size := by rw [bl_length]; omega
  rw [List.take_of_length_le hl, List.drop_zero, List.take_append_drop]
theorem refopen_crc (s : ByteArray) (hs : s.size ≤ 140737488351232) (k : Nat) (hk : 10 * s.size < k) : surmiseref02_Open.f k s = some (openN s) := by
  unfold surmiseref02_Open.f openN
  rw [wrap_id (by omega) (by omega)]
  by_cases h : s.size < 4
  · rw [if_pos (by omega), if_pos h]
  · have e : ((s.size : Int) - 4).toNat = s.size - 4 := by omega
    have hsz : (s.extract 0 (s.size - 4)).size = s.size - 4 := by rw [ByteArray.size_extract]; omega
    rw [if_neg (by omega), if_pos (by omega), if_pos (by omega), if_neg h, e, refseal_crc _ (by omega) k (by omega)]
    simp only [Option.bind_some, toList_iff]
    have hc := cut_four s h
    by_cases hq : fourB (sumN (bl (s.extract 0 (s.size - 4)))) = s.extract (s.size - 4) s.size
    · rw [if_pos hq, if_pos (by rw [hq]; exact hc.symm)]
    · rw [if_neg hq, if_neg]
      intro h2
      apply hq
      have h3 := h2.trans hc
      exact (ByteArray.append_right_inj _).1 h3
theorem join_crc (a b n : Nat) (ha : a < 4294967296) (hb : b < 4294967296) (hn : n ≤ 9223372036854775807) : check_Join.f (a : Int) (b : Int) (n : Int) = some (((joinN a b n : Nat) : Int), 0) := by
  unfold check_Join.f
  rw [if_neg (by omega), if_pos ⟨by omega, by omega, by omega, by omega, by omega⟩]
  simp only [Int.toNat_natCast]

theorem awake_true (k : Nat) (hk : 100 < k) : surmiselaw02_awake.f k = some true := by
  unfold surmiselaw02_awake.f
  have s1 := sum_crc (⟨#[49, 50, 51, 52]⟩ : ByteArray) (by decide) k (by show 4 + 9 < k; omega)
  have s2 := sum_crc (⟨#[53, 54, 55, 56, 57]⟩ : ByteArray) (by decide) k (by show 5 + 9 < k; omega)
  have s3 := sum_crc (⟨#[49, 50, 51, 52, 53, 54, 55, 56, 57]⟩ : ByteArray) (by decide) k (by show 9 + 9 < k; omega)
  have o1 := open_crc (⟨#[49, 50, 51, 52]⟩ : ByteArray) (by decide) k (by show 4 + 9 < k; omega)
  have b1 : bl (⟨#[49, 50, 51, 52]⟩ : ByteArray) = [49, 50, 51, 52] := rfl
  have b2 : bl (⟨#[53, 54, 55, 56, 57]⟩ : ByteArray) = [53, 54, 55, 56, 57] := rfl
  have b3 : bl (⟨#[49, 50, 51, 52, 53, 54, 55, 56, 57]⟩ : ByteArray) = [49, 50, 51, 52] ++ [53, 54, 55, 56, 57] := rfl
  have j1 := join_crc (sumN [49, 50, 51, 52]) (sumN [53, 54, 55, 56, 57]) 5 (sumN_lt _ (by decide)) (sumN_lt _ (by decide)) (by omega)
  have j2 := join_sums [49, 50, 51, 52] [53, 54, 55, 56, 57] (by decide)
  have e5 : [53, 54, 55, 56, 57].length = 5 := rfl
  rw [e5] at j2
  rw [j2] at j1
  rw [b1] at s1
  rw [b2] at s2
  rw [b3] at s3
  have q : sumN ([49, 50, 51, 52] ++ [53, 54, 55, 56, 57]) = 3808858755 := by decide +kernel
  rw [q] at s3 j1
  have o2 : openN (⟨#[49, 50, 51, 52]⟩ : ByteArray) = (⟨#[]⟩, 7) := by decide +kernel
  rw [o2] at o1
  rw [s1]
  simp only [Option.bind_some]
  rw [s2]
  simp only [Option.bind_some]
  have e5' : ((5 : Nat) : Int) = 5 := rfl
  rw [e5'] at j1
  rw [j1]
  simp only [Option.bind_some]
  rw [o1]
  simp only [Option.bind_some]
  rw [s3]
  rfl

end Go.Proofs.Ytnlimhjbdgbcoaa.Q
