/- Strings as lists of numbers: small lemmas without a program. -/
import Derived.Test.YtgenlgajggmbbaaHBase
import Derived.Lib.Strings
namespace Go.Proofs.Ytgenlgajggmbbaa.Q
open Go.RowKit Go.Proofs.YtgenlgajggmbbaaW.PrintWords Go.Proofs.YtgenlgajggmbbaaW.PrintLast Go.Proofs.YtgenlgajggmbbaaW.PrintMore
set_option linter.unusedVariables false
set_option linter.unusedSimpArgs false

/-- A step of a chain of answers (by an equation: the kernel isn't asked to unfold anything). -/
theorem bind_of {α β : Type} {o : Option α} {x : α} (h : o = some x) (f : α → Option β) : o.bind f = f x := by rw [h]; rfl
theorem wrap_up {i : Int} (h0 : 0 ≤ i) (h : i < 9223372036854775807) : wrap64 (i + 1) = i + 1 := by
  unfold wrap64
  omega
theorem wrap_id {i : Int} (h0 : -9223372036854775808 ≤ i) (h : i ≤ 9223372036854775807) : wrap64 i = i := by
  unfold wrap64
  omega
/-- A string's bytes as numbers. -/
def bl (s : ByteArray) : List Nat := s.data.toList.map (·.toNat)
theorem bl_length (s : ByteArray) : (bl s).length = s.size := by simp [bl, data_length]
theorem bl_lt (s : ByteArray) : ∀ c ∈ bl s, c < 256 := by
  intro c hc
  simp only [bl, List.mem_map] at hc
  obtain ⟨b, _, rfl⟩ := hc
  exact b.toNat_lt
theorem bl_bt (s : ByteArray) (i : Nat) (hi : i < s.size) : bt s (i : Int) = (((bl s)[i]'(by rw [bl_length]; exact hi) : Nat) : Int) := by
  simp only [bt, Int.toNat_natCast, dif_pos hi, bl, List.getElem_map]
  rfl
theorem bl_drop (s : ByteArray) (i : Nat) (hi : i < s.size) : (bl s).drop i = (bl s)[i]'(by rw [bl_length]; exact hi) :: (bl s).drop (i + 1) := List.drop_eq_getElem_cons _

theorem bl_idx (s : ByteArray) (i : Nat) (hi : i < (bl s).length) : (bl s)[i] < 256 := bl_lt s _ (List.getElem_mem hi)
theorem str_ext {a b : ByteArray} (h : a.data.toList = b.data.toList) : a = b := by
  obtain ⟨⟨a⟩⟩ := a
  obtain ⟨⟨b⟩⟩ := b
  simp only at h
  rw [h]
theorem toList_iff {a b : ByteArray} : a.toList = b.toList ↔ a = b := by
  constructor
  · intro h
    rw [Go.Lib.toList_data, Go.Lib.toList_data] at h
    exact str_ext h
  · intro h
    rw [h]
theorem bl_inj {a b : ByteArray} (h : bl a = bl b) : a = b := by
  apply str_ext
  unfold bl at h
  generalize a.data.toList = x at h
  generalize b.data.toList = y at h
  induction x generalizing y with
  | nil => cases y with
    | nil => rfl
    | cons c y => simp at h
  | cons c x ih => cases y with
    | nil => simp at h
    | cons d y =>
      simp only [List.map_cons, List.cons.injEq] at h
      rw [UInt8.toNat_inj.1 h.1, ih y h.2]
theorem bl_append (a b : ByteArray) : bl (a ++ b) = bl a ++ bl b := by simp [bl, ByteArray.data_append]
theorem bl_extract (s : ByteArray) (i j : Nat) : bl (s.extract i j) = ((bl s).take j).drop i := by
  simp [bl, ByteArray.data_extract, List.map_drop, List.map_take]
  rw [List.drop_take]
theorem bl_nums (l : List Int) (h : ∀ x ∈ l, 0 ≤ x ∧ x < 256) : bl (strOfNums l) = l.map Int.toNat := by
  simp only [bl, strOfNums_data, List.map_map]
  apply List.map_congr_left
  intro x hx
  have := h x hx
  simp only [Function.comp_apply, UInt8.toNat_ofNat']
  omega
theorem bytesOf_bl (s : ByteArray) : bytesOf s = (bl s).map fun (n : Nat) => (n : Int) := by simp [bytesOf, bl]
theorem strOfNums_append (a b : List Int) : strOfNums (a ++ b) = strOfNums a ++ strOfNums b := by
  apply str_ext
  simp [strOfNums_data, ByteArray.data_append]
theorem strOfNums_bytesOf (s : ByteArray) : strOfNums (bytesOf s) = s := by
  apply bl_inj
  rw [bl_nums _ (by intro x hx; rw [bytesOf_bl, List.mem_map] at hx; obtain ⟨n, hn, rfl⟩ := hx; have := bl_lt s n hn; omega), bytesOf_bl, List.map_map]
  have e : (Int.toNat ∘ fun (n : Nat) => (n : Int)) = id := by funext n; rfl
  rw [e, List.map_id]

end Go.Proofs.Ytgenlgajggmbbaa.Q
