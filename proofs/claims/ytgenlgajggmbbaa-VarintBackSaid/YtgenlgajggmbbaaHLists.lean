/- The contracts of varint.Numbers, varint.Texts and surmiseref01.Texts: lists that are laid item by item behind their number. -/
import Derived.Test.YtgenlgajggmbbaaHMark
import Derived.Test.YtgenlgajggmbbaaHNumber
import Derived.Test.YtgenlgajggmbbaaQf12
import Derived.Test.YtgenlgajggmbbaaQf30
import Derived.Test.YtgenlgajggmbbaaQf13
namespace Go.Proofs.Ytgenlgajggmbbaa.Q
open Go.RowKit Go.Proofs.YtgenlgajggmbbaaW.PrintWords Go.Proofs.YtgenlgajggmbbaaW.PrintLast Go.Proofs.YtgenlgajggmbbaaW.PrintMore
set_option linter.unusedVariables false
set_option linter.unusedSimpArgs false

/-- Items laid one behind the other, till one has an error. -/
def listO {α : Type} (T : α → Option (ByteArray × Int)) : List α → List Int → Option (ByteArray × Int)
  | [], acc => some (strOfNums acc, 0)
  | x :: l, acc => (T x).bind fun r => if r.2 = 0 then (if acc.length + r.1.size ≤ 140737488355328 then listO T l (acc ++ bytesOf r.1) else none) else some (⟨#[]⟩, r.2)
theorem listO_mono {α : Type} {T T' : α → Option (ByteArray × Int)} (h : ∀ x, LeO (T x) (T' x)) (l : List α) : ∀ acc, LeO (listO T l acc) (listO T' l acc) := by
  induction l with
  | nil => intro acc; exact LeO.refl _
  | cons x l ih =>
    intro acc
    simp only [listO]
    exact LeO.bind (h x) (fun r => LeO.ite (LeO.ite (ih _) (LeO.refl _)) (LeO.refl _))
theorem rd_at (l : List Int) (i : Nat) (h : i < l.length) : rd l (i : Int) = l[i] := by simp [rd, h]
theorem rdOf_at (l : List ByteArray) (i : Nat) (h : i < l.length) : rdOf ByteArray.empty l (i : Int) = l[i] := by simp [rdOf, h]
theorem appended_m (xs : List Int) (s : ByteArray) : nums .u8 xs ++ Lib.strCells s = nums .u8 (xs ++ bytesOf s) := by rw [strCells_nums, nums_append]

theorem infoB : (Try.prog.info? 5).map (fun i => (i.zero, i.size, i.bytes)) = some (some (.int .u8 0), 1, 1) := by kernel_rfl
theorem numberO_calls (x : Int) (s : ByteArray) (e2 : Int) (w : World) (h : (varint_Number.f x).map (fun t => (t, (0 : Int))) = some (s, e2)) :
    Calls Try.prog 30 #[.int .i64 x] w fun e w' => e = .returned (.tuple #[.string s, .int .i64 e2]) ∧ Below w.heap.size w w' := by
  rw [Option.map_eq_some_iff] at h
  obtain ⟨t, ht, h⟩ := h
  simp only [Prod.mk.injEq] at h
  obtain ⟨rfl, rfl⟩ := h
  exact varint_Numbers_1.calls x t 0 w (by unfold varint_Numbers_1.f; rw [bind_of ht])
theorem digL_length (f : Nat) : ∀ u, (digL f u).length ≤ f := by
  induction f with
  | zero => intro u; simp [digL]
  | succ f ih =>
    intro u
    rw [digL]
    split
    · simp
    · have := ih (u / 128)
      simp only [List.length_cons]
      omega
theorem numB_size (n : Int) : (numB n).size ≤ 10 := by
  unfold numB
  rw [strOfNums_size, ints, List.length_map]
  exact digL_length 10 _

set_option maxHeartbeats 4000000 in
set_option maxRecDepth 100000 in
theorem list_ints (k : Nat) (A : Option Addr) (c : Nat) (l : List Int) (t0 : ByteArray) (r1 : ByteArray) (r2 : Int) (w : World) (hr : Kd.C (Kd.int .i64) w A l.length l) (hc : l.length ≤ c) (hl : l.length ≤ 256) (ht : varint_Number.f (l.length : Int) = some t0) (h0 : t0.size ≤ 140737488351232) (h : listO (fun x => (varint_Number.f x).map (fun t => (t, (0 : Int)))) l (bytesOf t0) = some (r1, r2)) :
    Calls Try.prog 29 #[.slice A l.length c, .func (Fn.func 30) #[] #[]] w fun e w' => e = .returned (.tuple #[.string r1, .int .i64 r2]) ∧ Below w.heap.size w w' := by
  have HT := Aside0.mk ht
  have HL := Aside0.mk h
  have HR := Aside0.mk hr
  have hcv := fun W : World => Lib.run_convert_string_bytes (P := Try.prog) W 9 51 5 t0 Try.underlying9 Try.underlying51 Try.underlying5
  clear ht h hr
  obtain ⟨i0, hi, hz0, hz1, hz2⟩ := info_parts infoB
  go_enter Try.func29, Try.ntmps29
  go_wp2_with (first | (go_at_call 10; refine (varint_Number.calls (l.length : Int) t0 _ HT.out).mono ?_; rintro e w1 ⟨rfl, hb⟩; have HB1 := Aside0.mk hb; have HM1 := Aside0.mk (MOwn.of_bytes w1 w.heap.size 5 t0 HB1.out.size (by simp only [maxLen]; omega)); have HB2 := Aside0.mk (bytes_below HB1.out HB1.out.size 5 t0)))
  have hcv0 := Aside0.mk hcv
  clear hcv
  go_loopg [6, 20] l.length (fun kq vb vi wr => ∃ (i : Nat) (xs : List Int), vi = .int .i64 i ∧ Aside0 (i + kq = l.length) ∧ Aside0 (listO (fun x => (varint_Number.f x).map (fun t => (t, (0 : Int)))) (l.drop i) xs = some (r1, r2)) ∧ Aside0 (MOwn wr w.heap.size 5 vb (nums .u8 xs)) ∧ Aside0 (Below w.heap.size w wr))
  case atStart => exact ⟨0, bytesOf t0, rfl, ⟨by simp⟩, ⟨by rw [List.drop_zero]; exact HL.out⟩, ⟨by rw [← strCells_nums]; exact HM1.out⟩, HB2⟩
  case round =>
    clear HB2 HM1
    obtain ⟨i, xs, rfl, HK, HO, HM, HB⟩ := hrel
    have hil : i ≤ l.length := by have := HK.out; omega
    by_cases hlt : i < l.length
    · obtain ⟨ad, ea, hcell⟩ := Kd.at_int HR.out (i : Int) (by omega) (by omega)
      cases ea
      replace hcell := (HB.out.cell (World.block_lt_of_cell? w _ hcell)).trans hcell
      rw [Int.toNat_natCast] at hcell
      obtain ⟨x, hx⟩ : ∃ x, x = rd l (i : Int) := ⟨_, rfl⟩
      rw [← hx] at hcell
      have ho := HO.out
      rw [List.drop_eq_getElem_cons hlt, listO, Option.bind_eq_some_iff] at ho
      rw [rd_at l i hlt] at hx
      rw [← hx] at ho
      obtain ⟨⟨s, e2⟩, hs, ho⟩ := ho
      have HS := Aside0.mk hs
      have HO2 := Aside0.mk ho
      clear hs ho hx HO
      by_cases he : e2 = 0
      · subst he
        have ho := HO2.out
        rw [if_pos rfl] at ho
        by_cases hfit : xs.length + s.size ≤ 140737488355328
        · rw [if_pos hfit] at ho
          have HO3 := Aside0.mk ho
          have HF := Aside0.mk hfit
          clear ho HO2 hfit
          go_wp2_with (first
            | (go_at_call 30; refine (numberO_calls x s 0 _ HS.out).mono ?_; rintro e w2 ⟨rfl, hb⟩; have HB3 := Aside0.mk (Below.trans HB.out (hb.mono HB.out.size)); have HM3 := Aside0.mk (HM.out.below hb); clear hb HB HM)
            | ((with_reducible refine gate_dst (N := 35) rfl ?_); refine wpList_append_m_string _ rfl (.tmp 33) (.tmp 34) 51 9 rfl w.heap.size 5 i0 Try.underlying51 Try.underlying9 hi hz0 hz1 hz2 _ (nums .u8 xs) rfl HM3.out s rfl (by rw [nums_length]; exact HF.out) HB3.out.size ?_; intro v1 w3 hm1 hg1; rw [appended_m] at hm1; have HM4 := Aside0.mk hm1; have HB4 := Aside0.mk (HB3.out.grown hg1 HB3.out.size (fun k hk => HM3.out.base_le k hk)); clear hm1 hg1))
          go_roundg (l.length - (i + 1))
          case measure => have := HK.out; omega
          case rel => exact ⟨i + 1, xs ++ bytesOf s, by go_num, ⟨by omega⟩, HO3, HM4, HB4⟩
        · rw [if_neg hfit] at ho
          cases ho
      · have ho := HO2.out
        rw [if_neg he] at ho
        simp only [Option.some.injEq, Prod.mk.injEq] at ho
        obtain ⟨rfl, rfl⟩ := ho
        go_wp2_with (go_at_call 30; refine (numberO_calls x s e2 _ HS.out).mono ?_; rintro e w2 ⟨rfl, hb⟩; have HB3 := Aside0.mk (Below.trans HB.out (hb.mono HB.out.size)); clear hb)
        go_ret2
        exact ⟨rfl, HB3.out⟩
    · obtain rfl : i = l.length := by omega
      have ho := HO.out
      rw [List.drop_length, listO] at ho
      simp only [Option.some.injEq, Prod.mk.injEq] at ho
      obtain ⟨hs, rfl⟩ := ho
      have hcs := MOwn.to_string (P := Try.prog) Try.underlying51 Try.underlying5 Try.underlying9 HM.out
      rw [hs] at hcs
      clear hs
      go_wp2
      go_ret2
      exact ⟨rfl, HB.out⟩

set_option maxHeartbeats 4000000 in
set_option maxRecDepth 100000 in
theorem list_texts (k : Nat) (A : Option Addr) (c : Nat) (l : List ByteArray) (t0 : ByteArray) (r1 : ByteArray) (r2 : Int) (w : World) (hr : Kd.C Kd.string w A l.length l) (hc : l.length ≤ c) (hl : l.length ≤ 256) (ht : varint_Number.f (l.length : Int) = some t0) (h0 : t0.size ≤ 140737488351232) (h : listO (varint_Text.f) l (bytesOf t0) = some (r1, r2)) :
    Calls Try.prog 31 #[.slice A l.length c, .func (Fn.func 12) #[] #[]] w fun e w' => e = .returned (.tuple #[.string r1, .int .i64 r2]) ∧ Below w.heap.size w w' := by
  have HT := Aside0.mk ht
  have HL := Aside0.mk h
  have HR := Aside0.mk hr
  have hcv := fun W : World => Lib.run_convert_string_bytes (P := Try.prog) W 9 51 5 t0 Try.underlying9 Try.underlying51 Try.underlying5
  clear ht h hr
  obtain ⟨i0, hi, hz0, hz1, hz2⟩ := info_parts infoB
  go_enter Try.func31, Try.ntmps31
  go_wp2_with (first | (go_at_call 10; refine (varint_Number.calls (l.length : Int) t0 _ HT.out).mono ?_; rintro e w1 ⟨rfl, hb⟩; have HB1 := Aside0.mk hb; have HM1 := Aside0.mk (MOwn.of_bytes w1 w.heap.size 5 t0 HB1.out.size (by simp only [maxLen]; omega)); have HB2 := Aside0.mk (bytes_below HB1.out HB1.out.size 5 t0)))
  have hcv0 := Aside0.mk hcv
  clear hcv
  go_loopg [6, 20] l.length (fun kq vb vi wr => ∃ (i : Nat) (xs : List Int), vi = .int .i64 i ∧ Aside0 (i + kq = l.length) ∧ Aside0 (listO (varint_Text.f) (l.drop i) xs = some (r1, r2)) ∧ Aside0 (MOwn wr w.heap.size 5 vb (nums .u8 xs)) ∧ Aside0 (Below w.heap.size w wr))
  case atStart => exact ⟨0, bytesOf t0, rfl, ⟨by simp⟩, ⟨by rw [List.drop_zero]; exact HL.out⟩, ⟨by rw [← strCells_nums]; exact HM1.out⟩, HB2⟩
  case round =>
    clear HB2 HM1
    obtain ⟨i, xs, rfl, HK, HO, HM, HB⟩ := hrel
    have hil : i ≤ l.length := by have := HK.out; omega
    by_cases hlt : i < l.length
    · obtain ⟨ad, ea, hcell⟩ := Kd.at_string HR.out (i : Int) (by omega) (by omega)
      cases ea
      replace hcell := (HB.out.cell (World.block_lt_of_cell? w _ hcell)).trans hcell
      rw [Int.toNat_natCast] at hcell
      obtain ⟨x, hx⟩ : ∃ x, x = rdOf ByteArray.empty l (i : Int) := ⟨_, rfl⟩
      rw [← hx] at hcell
      have ho := HO.out
      rw [List.drop_eq_getElem_cons hlt, listO, Option.bind_eq_some_iff] at ho
      rw [rdOf_at l i hlt] at hx
      rw [← hx] at ho
      obtain ⟨⟨s, e2⟩, hs, ho⟩ := ho
      have HS := Aside0.mk hs
      have HO2 := Aside0.mk ho
      clear hs ho hx HO
      by_cases he : e2 = 0
      · subst he
        have ho := HO2.out
        rw [if_pos rfl] at ho
        by_cases hfit : xs.length + s.size ≤ 140737488355328
        · rw [if_pos hfit] at ho
          have HO3 := Aside0.mk ho
          have HF := Aside0.mk hfit
          clear ho HO2 hfit
          go_wp2_with (first
            | (go_at_call 12; refine (varint_Text.calls x s 0 _ HS.out).mono ?_; rintro e w2 ⟨rfl, hb⟩; have HB3 := Aside0.mk (Below.trans HB.out (hb.mono HB.out.size)); have HM3 := Aside0.mk (HM.out.below hb); clear hb HB HM)
            | ((with_reducible refine gate_dst (N := 35) rfl ?_); refine wpList_append_m_string _ rfl (.tmp 33) (.tmp 34) 51 9 rfl w.heap.size 5 i0 Try.underlying51 Try.underlying9 hi hz0 hz1 hz2 _ (nums .u8 xs) rfl HM3.out s rfl (by rw [nums_length]; exact HF.out) HB3.out.size ?_; intro v1 w3 hm1 hg1; rw [appended_m] at hm1; have HM4 := Aside0.mk hm1; have HB4 := Aside0.mk (HB3.out.grown hg1 HB3.out.size (fun k hk => HM3.out.base_le k hk)); clear hm1 hg1))
          go_roundg (l.length - (i + 1))
          case measure => have := HK.out; omega
          case rel => exact ⟨i + 1, xs ++ bytesOf s, by go_num, ⟨by omega⟩, HO3, HM4, HB4⟩
        · rw [if_neg hfit] at ho
          cases ho
      · have ho := HO2.out
        rw [if_neg he] at ho
        simp only [Option.some.injEq, Prod.mk.injEq] at ho
        obtain ⟨rfl, rfl⟩ := ho
        go_wp2_with (go_at_call 12; refine (varint_Text.calls x s e2 _ HS.out).mono ?_; rintro e w2 ⟨rfl, hb⟩; have HB3 := Aside0.mk (Below.trans HB.out (hb.mono HB.out.size)); clear hb)
        go_ret2
        exact ⟨rfl, HB3.out⟩
    · obtain rfl : i = l.length := by omega
      have ho := HO.out
      rw [List.drop_length, listO] at ho
      simp only [Option.some.injEq, Prod.mk.injEq] at ho
      obtain ⟨hs, rfl⟩ := ho
      have hcs := MOwn.to_string (P := Try.prog) Try.underlying51 Try.underlying5 Try.underlying9 HM.out
      rw [hs] at hcs
      clear hs
      go_wp2
      go_ret2
      exact ⟨rfl, HB.out⟩

set_option maxHeartbeats 4000000 in
set_option maxRecDepth 100000 in
theorem ref_texts (k : Nat) (A : Option Addr) (c : Nat) (l : List ByteArray) (t0 : ByteArray) (r1 : ByteArray) (r2 : Int) (w : World) (hr : Kd.C Kd.string w A l.length l) (hc : l.length ≤ c) (hl : l.length ≤ 256) (ht : surmiseref01_Number.f k (l.length : Int) = some t0) (h0 : t0.size ≤ 140737488351232) (h : listO (surmiseref01_Text.f k) l (bytesOf t0) = some (r1, r2)) :
    Calls Try.prog 17 #[.slice A l.length c] w fun e w' => e = .returned (.tuple #[.string r1, .int .i64 r2]) ∧ Below w.heap.size w w' := by
  have HT := Aside0.mk ht
  have HL := Aside0.mk h
  have HR := Aside0.mk hr
  have hcv := fun W : World => Lib.run_convert_string_bytes (P := Try.prog) W 9 51 5 t0 Try.underlying9 Try.underlying51 Try.underlying5
  clear ht h hr
  obtain ⟨i0, hi, hz0, hz1, hz2⟩ := info_parts infoB
  go_enter Try.func17, Try.ntmps17
  go_wp2_with (first | (go_at_call 11; refine (surmiseref01_Number.calls k (l.length : Int) t0 _ HT.out).mono ?_; rintro e w1 ⟨rfl, hb⟩; have HB1 := Aside0.mk hb; have HM1 := Aside0.mk (MOwn.of_bytes w1 w.heap.size 5 t0 HB1.out.size (by simp only [maxLen]; omega)); have HB2 := Aside0.mk (bytes_below HB1.out HB1.out.size 5 t0)))
  have hcv0 := Aside0.mk hcv
  clear hcv
  go_loopg [4, 5] l.length (fun kq vb vi wr => ∃ (i : Nat) (xs : List Int), vi = .int .i64 i ∧ Aside0 (i + kq = l.length) ∧ Aside0 (listO (surmiseref01_Text.f k) (l.drop i) xs = some (r1, r2)) ∧ Aside0 (MOwn wr w.heap.size 5 vb (nums .u8 xs)) ∧ Aside0 (Below w.heap.size w wr))
  case atStart => exact ⟨0, bytesOf t0, rfl, ⟨by simp⟩, ⟨by rw [List.drop_zero]; exact HL.out⟩, ⟨by rw [← strCells_nums]; exact HM1.out⟩, HB2⟩
  case round =>
    clear HB2 HM1
    obtain ⟨i, xs, rfl, HK, HO, HM, HB⟩ := hrel
    have hil : i ≤ l.length := by have := HK.out; omega
    by_cases hlt : i < l.length
    · obtain ⟨ad, ea, hcell⟩ := Kd.at_string HR.out (i : Int) (by omega) (by omega)
      cases ea
      replace hcell := (HB.out.cell (World.block_lt_of_cell? w _ hcell)).trans hcell
      rw [Int.toNat_natCast] at hcell
      obtain ⟨x, hx⟩ : ∃ x, x = rdOf ByteArray.empty l (i : Int) := ⟨_, rfl⟩
      rw [← hx] at hcell
      have ho := HO.out
      rw [List.drop_eq_getElem_cons hlt, listO, Option.bind_eq_some_iff] at ho
      rw [rdOf_at l i hlt] at hx
      rw [← hx] at ho
      obtain ⟨⟨s, e2⟩, hs, ho⟩ := ho
      have HS := Aside0.mk hs
      have HO2 := Aside0.mk ho
      clear hs ho hx HO
      by_cases he : e2 = 0
      · subst he
        have ho := HO2.out
        rw [if_pos rfl] at ho
        by_cases hfit : xs.length + s.size ≤ 140737488355328
        · rw [if_pos hfit] at ho
          have HO3 := Aside0.mk ho
          have HF := Aside0.mk hfit
          clear ho HO2 hfit
          go_wp2_with (first
            | (go_at_call 13; refine (surmiseref01_Text.calls k x s 0 _ HS.out).mono ?_; rintro e w2 ⟨rfl, hb⟩; have HB3 := Aside0.mk (Below.trans HB.out (hb.mono HB.out.size)); have HM3 := Aside0.mk (HM.out.below hb); clear hb HB HM)
            | ((with_reducible refine gate_dst (N := 34) rfl ?_); refine wpList_append_m_string _ rfl (.tmp 32) (.tmp 33) 51 9 rfl w.heap.size 5 i0 Try.underlying51 Try.underlying9 hi hz0 hz1 hz2 _ (nums .u8 xs) rfl HM3.out s rfl (by rw [nums_length]; exact HF.out) HB3.out.size ?_; intro v1 w3 hm1 hg1; rw [appended_m] at hm1; have HM4 := Aside0.mk hm1; have HB4 := Aside0.mk (HB3.out.grown hg1 HB3.out.size (fun k hk => HM3.out.base_le k hk)); clear hm1 hg1))
          go_roundg (l.length - (i + 1))
          case measure => have := HK.out; omega
          case rel => exact ⟨i + 1, xs ++ bytesOf s, by go_num, ⟨by omega⟩, HO3, HM4, HB4⟩
        · rw [if_neg hfit] at ho
          cases ho
      · have ho := HO2.out
        rw [if_neg he] at ho
        simp only [Option.some.injEq, Prod.mk.injEq] at ho
        obtain ⟨rfl, rfl⟩ := ho
        go_wp2_with (go_at_call 13; refine (surmiseref01_Text.calls k x s e2 _ HS.out).mono ?_; rintro e w2 ⟨rfl, hb⟩; have HB3 := Aside0.mk (Below.trans HB.out (hb.mono HB.out.size)); clear hb)
        go_ret2
        exact ⟨rfl, HB3.out⟩
    · obtain rfl : i = l.length := by omega
      have ho := HO.out
      rw [List.drop_length, listO] at ho
      simp only [Option.some.injEq, Prod.mk.injEq] at ho
      obtain ⟨hs, rfl⟩ := ho
      have hcs := MOwn.to_string (P := Try.prog) Try.underlying51 Try.underlying5 Try.underlying9 HM.out
      rw [hs] at hcs
      clear hs
      go_wp2
      go_ret2
      exact ⟨rfl, HB.out⟩

end Go.Proofs.Ytgenlgajggmbbaa.Q
