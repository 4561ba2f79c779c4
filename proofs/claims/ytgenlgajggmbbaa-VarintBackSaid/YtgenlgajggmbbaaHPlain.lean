/- The plain laws of chapter 01: numbers, texts and lists as bytes; the awake test. -/
import Derived.Test.YtgenlgajggmbbaaHTexts
import Derived.Test.YtgenlgajggmbbaaQf9
import Derived.Test.YtgenlgajggmbbaaQf15
namespace Go.Proofs.Ytgenlgajggmbbaa.Q
open Go.RowKit Go.Proofs.YtgenlgajggmbbaaW.PrintWords Go.Proofs.YtgenlgajggmbbaaW.PrintLast Go.Proofs.YtgenlgajggmbbaaW.PrintMore
set_option linter.unusedVariables false
set_option linter.unusedSimpArgs false

theorem number_some (n : Int) (h0 : -9223372036854775808 ≤ n) (h1 : n ≤ 9223372036854775807) : varint_Number.f n = some (numB n) := by
  unfold varint_Number.f
  rw [if_pos ⟨h0, h1⟩]
theorem ints_cons (c : Nat) (l : List Nat) : ints (c :: l) = (c : Int) :: ints l := rfl
theorem digits_some (f : Nat) (hf : f ≤ 20) : ∀ (k u : Nat), f ≤ k → u < 18446744073709551616 → u < 128 ^ (f + 1) → surmiseref01_digits.f (k + 1) (u : Int) = some (strOfNums (ints (digL (f + 1) u))) := by
  induction f with
  | zero =>
    intro k u hk h64 hu
    have hz : u < 128 := by simpa using hu
    have e : (u : Int) % 256 = (u : Int) := by omega
    rw [surmiseref01_digits.f, digL, if_pos (by omega), if_pos hz, e]
    rfl
  | succ f ih =>
    intro k u hk h64 hu
    obtain ⟨k, rfl⟩ : ∃ m, k = m + 1 := ⟨k - 1, by omega⟩
    rw [surmiseref01_digits.f, digL]
    by_cases h : u < 128
    · rw [if_pos (by omega), if_pos h]
      have e : (u : Int) % 256 = (u : Int) := by omega
      rw [e]
      rfl
    · have e1 : IntKind.u64.wrap (Int.tdiv (u : Int) 128) = ((u / 128 : Nat) : Int) := by
        rw [Int.tdiv_eq_ediv_of_nonneg (by omega), wrap_u64]
        omega
      have e2 : IntKind.u64.wrap (Int.tmod (u : Int) 128 + 128) % 256 = ((u % 128 + 128 : Nat) : Int) := by
        rw [Int.tmod_eq_emod_of_nonneg (by omega), wrap_u64]
        omega
      have hd : u / 128 < 128 ^ (f + 1) := by
        rw [Nat.pow_succ] at hu
        exact Nat.div_lt_of_lt_mul (by rw [Nat.mul_comm]; exact hu)
      have hi := ih (by omega) k (u / 128) (by omega) (by omega) hd
      have hl := digL_length (f + 1) (u / 128)
      rw [if_neg (by omega), if_neg h, e1, e2]
      rw [bind_of rfl, bind_of hi, if_pos]
      · rw [ints_cons, ← strOfNums_append]
        rfl
      · rw [strOfNums_size, strOfNums_size, ints, List.length_map]
        simp only [List.length_cons, List.length_nil]
        omega

theorem refnumber_some (n : Int) (h0 : -9223372036854775808 ≤ n) (h1 : n ≤ 9223372036854775807) (k : Nat) (hk : 10 ≤ k) : surmiseref01_Number.f k n = some (numB n) := by
  obtain ⟨k, rfl⟩ : ∃ m, k = m + 1 := ⟨k - 1, by omega⟩
  have hz := zig_lt n h0 h1
  have e128 : (128 : Nat) ^ (9 + 1) = 1180591620717411303424 := by decide
  have hd := digits_some 9 (by omega) k (zig n) (by omega) hz (by rw [e128]; omega)
  unfold surmiseref01_Number.f
  by_cases hn : n < 0
  · have e : IntKind.u64.wrap ((IntKind.u64.wrap ((IntKind.u64.wrap (wrap64 (-(wrap64 (n + 1))))) * 2)) + 1) = ((zig n : Nat) : Int) := by
      rw [wrap_id (i := n + 1) (by omega) (by omega), wrap_id (by omega) (by omega), wrap_u64, wrap_u64, wrap_u64, zig, if_pos hn]
      omega
    rw [if_pos hn, e, bind_of hd]
    rfl
  · rw [if_neg hn, zig_pos n hn h1, bind_of hd]
    rfl
theorem digL_pos (f u : Nat) : 1 ≤ (digL (f + 1) u).length := by
  rw [digL]
  split <;> simp
theorem digL_mono (f : Nat) : ∀ u v, u ≤ v → (digL f u).length ≤ (digL f v).length := by
  induction f with
  | zero => intro u v _; simp [digL]
  | succ f ih =>
    intro u v h
    have h1 := digL_pos f v
    rw [digL]
    by_cases hu : u < 128
    · rw [if_pos hu]
      simpa using h1
    · rw [if_neg hu, digL, if_neg (by omega)]
      have := ih (u / 128) (v / 128) (by omega)
      simp only [List.length_cons]
      omega
theorem numB_len (n : Int) : (numB n).size = (digL 10 (zig n)).length := by
  unfold numB
  rw [strOfNums_size, ints, List.length_map]
/-- The awake test. -/
theorem awake_true (k : Nat) (hk : 40 ≤ k) : surmiselaw01_awake.f k = some true := by
  have h : surmiselaw01_awake.f 40 = some true := by decide +kernel
  exact at_rounds (fun k => surmiselaw01_awake.mono k) hk h

/-- A text as bytes; items one behind the other. -/
def textP (s : ByteArray) : ByteArray × Int := if 4096 < s.size then (⟨#[]⟩, 4) else (numB (s.size : Int) ++ s, 0)
def listP {α : Type} (T : α → ByteArray × Int) : List α → ByteArray → ByteArray × Int
  | [], acc => (acc, 0)
  | x :: l, acc => if (T x).2 = 0 then listP T l (acc ++ (T x).1) else (⟨#[]⟩, (T x).2)
theorem textP_size (s : ByteArray) : (textP s).1.size ≤ 4106 := by
  unfold textP
  split
  · exact Nat.zero_le _
  · have := numB_size (s.size : Int)
    rw [ByteArray.size_append]
    omega
theorem text_some (s : ByteArray) (hs : s.size ≤ 140737488351232) : varint_Text.f s = some (textP s) := by
  unfold varint_Text.f textP
  by_cases h : 4096 < s.size
  · rw [if_pos (by omega), if_pos h]
  · have := numB_size (s.size : Int)
    rw [if_neg (by omega), if_neg h, bind_of (number_some _ (by omega) (by omega)), if_pos (by omega)]
theorem reftext_some (s : ByteArray) (hs : s.size ≤ 140737488351232) (k : Nat) (hk : 10 ≤ k) : surmiseref01_Text.f k s = some (textP s) := by
  unfold surmiseref01_Text.f textP
  by_cases h : 4096 < s.size
  · rw [if_pos (by omega), if_pos h]
  · have := numB_size (s.size : Int)
    rw [if_neg (by omega), if_neg h, bind_of (refnumber_some _ (by omega) (by omega) k hk), if_pos (by omega)]
theorem listO_some {α : Type} (T : α → Option (ByteArray × Int)) (R : α → ByteArray × Int) (M : Nat) (hM : M ≤ 100000) (l : List α) : ∀ acc : List Int, (∀ x ∈ l, T x = some (R x) ∧ (R x).1.size ≤ M) → acc.length + M * l.length ≤ 140737488355328 →
    listO T l acc = some (listP R l (strOfNums acc)) := by
  induction l with
  | nil => intro acc _ _; rfl
  | cons x l ih =>
    intro acc h hb
    obtain ⟨h1, h2⟩ := h x List.mem_cons_self
    rw [List.length_cons, Nat.mul_succ] at hb
    rw [listO, bind_of h1, listP]
    by_cases he : (R x).2 = 0
    · rw [if_pos he, if_pos he, if_pos (by omega), ih _ (fun y hy => h y (List.mem_cons_of_mem _ hy)) (by rw [List.length_append, bytesOf_length]; omega), strOfNums_append, strOfNums_bytesOf]
    · rw [if_neg he, if_neg he]
/-- Numbers as bytes, texts as bytes. -/
def numbersP (l : List Int) : ByteArray × Int := if 256 < l.length then (⟨#[]⟩, 4) else listP (fun n => (numB n, 0)) l (numB (l.length : Int))
def textsP (l : List ByteArray) : ByteArray × Int := if 256 < l.length then (⟨#[]⟩, 4) else listP textP l (numB (l.length : Int))
theorem i64_of {n : Int} (h : (Lit.int .i64 n).wf = true) : -9223372036854775808 ≤ n ∧ n ≤ 9223372036854775807 := by
  have m1 : IntKind.i64.min = -9223372036854775808 := rfl
  have m2 : IntKind.i64.max = 9223372036854775807 := rfl
  simp only [Lit.wf, Bool.and_eq_true, decide_eq_true_eq] at h
  omega
theorem numbers_some (l : List Int) (h : ∀ n ∈ l, (Lit.int .i64 n).wf = true) : varint_Numbers.f l = some (numbersP l) := by
  unfold varint_Numbers.f numbersP
  by_cases hl : 256 < l.length
  · rw [if_pos hl, if_pos hl]
  · have := numB_size (l.length : Int)
    rw [if_neg hl, if_neg hl, bind_of (number_some _ (by omega) (by omega)), listO_some _ (fun n => (numB n, (0 : Int))) 10 (by omega) l _ (fun n hn => ?_) (by rw [bytesOf_length]; omega), strOfNums_bytesOf]
    have hb := i64_of (h n hn)
    exact ⟨by simp only [number_some n hb.1 hb.2, Option.map_some], numB_size n⟩
theorem texts_some (l : List ByteArray) (h : ∀ s ∈ l, s.size ≤ 140737488351232) : varint_Texts.f l = some (textsP l) := by
  unfold varint_Texts.f textsP
  by_cases hl : 256 < l.length
  · rw [if_pos hl, if_pos hl]
  · have := numB_size (l.length : Int)
    rw [if_neg hl, if_neg hl, bind_of (number_some _ (by omega) (by omega)), listO_some _ textP 4106 (by omega) l _ (fun s hs => ⟨text_some s (h s hs), textP_size s⟩) (by rw [bytesOf_length]; omega), strOfNums_bytesOf]
theorem reftexts_some (l : List ByteArray) (h : ∀ s ∈ l, s.size ≤ 140737488351232) (k : Nat) (hk : 10 ≤ k) : surmiseref01_Texts.f k l = some (textsP l) := by
  unfold surmiseref01_Texts.f textsP
  by_cases hl : 256 < l.length
  · rw [if_pos hl, if_pos hl]
  · have := numB_size (l.length : Int)
    rw [if_neg hl, if_neg hl, bind_of (refnumber_some _ (by omega) (by omega) k hk), if_pos (by omega), listO_some _ textP 4106 (by omega) l _ (fun s hs => ⟨reftext_some s (h s hs) k hk, textP_size s⟩) (by rw [bytesOf_length]; omega), strOfNums_bytesOf]
theorem refnumbers_l0 (l : List Int) (h : ∀ n ∈ l, (Lit.int .i64 n).wf = true) (hl : l.length ≤ 256) (d : Nat) : ∀ (k i : Nat) (acc : ByteArray), i + d = l.length → d + 20 ≤ k → acc.size ≤ 10 * (i + 1) →
    surmiseref01_Numbers.l0 k l acc (i : Int) = some (listP (fun n => (numB n, (0 : Int))) (l.drop i) acc) := by
  induction d with
  | zero =>
    intro k i acc hi hk ha
    obtain ⟨k, rfl⟩ : ∃ m, k = m + 1 := ⟨k - 1, by omega⟩
    rw [surmiseref01_Numbers.l0, if_neg (by omega), List.drop_of_length_le (by omega), listP]
  | succ d ih =>
    intro k i acc hi hk ha
    obtain ⟨k, rfl⟩ : ∃ m, k = m + 1 := ⟨k - 1, by omega⟩
    have hlt : i < l.length := by omega
    have hb := i64_of (h _ (List.getElem_mem hlt))
    have hs := numB_size l[i]
    rw [surmiseref01_Numbers.l0, if_pos (by omega), if_pos (by omega), rd_at l i hlt, bind_of (refnumber_some _ hb.1 hb.2 k (by omega)), if_pos (by omega), wrap_up (by omega) (by omega), List.drop_eq_getElem_cons hlt, listP, if_pos rfl]
    exact ih k (i + 1) _ (by omega) (by omega) (by rw [ByteArray.size_append]; omega)
theorem refnumbers_some (l : List Int) (h : ∀ n ∈ l, (Lit.int .i64 n).wf = true) (k : Nat) (hk : 300 ≤ k) : surmiseref01_Numbers.f k l = some (numbersP l) := by
  unfold surmiseref01_Numbers.f numbersP
  by_cases hl : 256 < l.length
  · rw [if_pos (by omega), if_pos hl]
  · have hs := numB_size (l.length : Int)
    rw [if_neg (by omega), if_neg hl, bind_of (refnumber_some _ (by omega) (by omega) k (by omega))]
    have := refnumbers_l0 l h (by omega) l.length k 0 (numB (l.length : Int)) (by omega) (by omega) (by omega)
    rw [List.drop_zero] at this
    exact this

end Go.Proofs.Ytgenlgajggmbbaa.Q
