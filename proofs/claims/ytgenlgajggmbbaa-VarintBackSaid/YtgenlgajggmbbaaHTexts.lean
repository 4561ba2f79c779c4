/- varint.Numbers, varint.Texts, surmiseref01.Texts: in the printer's form. -/
import Derived.Test.YtgenlgajggmbbaaHLists
namespace Go.Proofs.Ytgenlgajggmbbaa.Q
open Go.RowKit Go.Proofs.YtgenlgajggmbbaaW.PrintWords Go.Proofs.YtgenlgajggmbbaaW.PrintLast Go.Proofs.YtgenlgajggmbbaaW.PrintMore
set_option linter.unusedVariables false
set_option linter.unusedSimpArgs false

def varint_Numbers.f (l : List Int) : Option (ByteArray × Int) :=
  if 256 < l.length then some (⟨#[]⟩, 4) else (varint_Number.f (l.length : Int)).bind fun t => listO (fun x => (varint_Number.f x).map (fun t => (t, (0 : Int)))) l (bytesOf t)
def varint_Texts.f (l : List ByteArray) : Option (ByteArray × Int) :=
  if 256 < l.length then some (⟨#[]⟩, 4) else (varint_Number.f (l.length : Int)).bind fun t => listO varint_Text.f l (bytesOf t)
def surmiseref01_Texts.f (k : Nat) (l : List ByteArray) : Option (ByteArray × Int) :=
  if 256 < l.length then some (⟨#[]⟩, 4) else (surmiseref01_Number.f k (l.length : Int)).bind fun t => if t.size ≤ 140737488351232 then listO (surmiseref01_Text.f k) l (bytesOf t) else none
theorem surmiseref01_Texts.mono : ∀ l k, LeO (surmiseref01_Texts.f k l) (surmiseref01_Texts.f (k + 1) l) := by
  intro l k
  unfold surmiseref01_Texts.f
  exact LeO.ite (LeO.refl _) (LeO.bind (surmiseref01_Number.mono _ k) (fun t => LeO.ite (listO_mono (fun x => surmiseref01_Text.mono x k) l _) (LeO.refl _)))

set_option maxHeartbeats 1000000 in
theorem varint_Numbers.calls (A : Option Addr) (c : Nat) (l : List Int) (r1 : ByteArray) (r2 : Int) (w : World) (hr : Kd.C (Kd.int .i64) w A l.length l) (hc : l.length ≤ c) (h : varint_Numbers.f l = some (r1, r2)) :
    Calls Try.prog 14 #[.slice A l.length c] w fun e w' => e = .returned (.tuple #[.string r1, .int .i64 r2]) ∧ Below w.heap.size w w' := by
  have hbig : 256 < l.length → Calls Try.prog 29 #[.slice A l.length c, .func (Fn.func 30) #[] #[]] w fun e w' => e = .returned (.tuple #[.string ⟨#[]⟩, .int .i64 4]) ∧ Below w.heap.size w w' := by
    intro hb
    go_enter Try.func29, Try.ntmps29
    go_wp2
    go_ret2
    exact ⟨rfl, Below.refl _ _⟩
  have HC : Aside0 (Calls Try.prog 29 #[.slice A l.length c, .func (Fn.func 30) #[] #[]] w fun e w' => e = .returned (.tuple #[.string r1, .int .i64 r2]) ∧ Below w.heap.size w w') := by
    unfold varint_Numbers.f at h
    by_cases hb : 256 < l.length
    · rw [if_pos hb] at h
      simp only [Option.some.injEq, Prod.mk.injEq] at h
      obtain ⟨rfl, rfl⟩ := h
      exact ⟨hbig hb⟩
    · rw [if_neg hb, Option.bind_eq_some_iff] at h
      obtain ⟨t, ht, h⟩ := h
      have hz : t.size ≤ 140737488351232 := by
        unfold varint_Number.f at ht
        split at ht
        · obtain rfl := Option.some.inj ht
          have := numB_size (l.length : Int)
          omega
        · cases ht
      exact ⟨list_ints 0 A c l t r1 r2 w hr hc (by omega) ht hz h⟩
  clear hbig h hr
  go_enter Try.func14, Try.ntmps14
  go_wp2_with (go_at_call 29; refine HC.out.mono ?_; rintro e w1 ⟨rfl, hb⟩; have HB := Aside0.mk hb; clear hb)
  go_ret2
  exact ⟨rfl, HB.out⟩

set_option maxHeartbeats 1000000 in
theorem varint_Texts.calls (A : Option Addr) (c : Nat) (l : List ByteArray) (r1 : ByteArray) (r2 : Int) (w : World) (hr : Kd.C Kd.string w A l.length l) (hc : l.length ≤ c) (h : varint_Texts.f l = some (r1, r2)) :
    Calls Try.prog 16 #[.slice A l.length c] w fun e w' => e = .returned (.tuple #[.string r1, .int .i64 r2]) ∧ Below w.heap.size w w' := by
  have hbig : 256 < l.length → Calls Try.prog 31 #[.slice A l.length c, .func (Fn.func 12) #[] #[]] w fun e w' => e = .returned (.tuple #[.string ⟨#[]⟩, .int .i64 4]) ∧ Below w.heap.size w w' := by
    intro hb
    go_enter Try.func31, Try.ntmps31
    go_wp2
    go_ret2
    exact ⟨rfl, Below.refl _ _⟩
  have HC : Aside0 (Calls Try.prog 31 #[.slice A l.length c, .func (Fn.func 12) #[] #[]] w fun e w' => e = .returned (.tuple #[.string r1, .int .i64 r2]) ∧ Below w.heap.size w w') := by
    unfold varint_Texts.f at h
    by_cases hb : 256 < l.length
    · rw [if_pos hb] at h
      simp only [Option.some.injEq, Prod.mk.injEq] at h
      obtain ⟨rfl, rfl⟩ := h
      exact ⟨hbig hb⟩
    · rw [if_neg hb, Option.bind_eq_some_iff] at h
      obtain ⟨t, ht, h⟩ := h
      have hz : t.size ≤ 140737488351232 := by
        unfold varint_Number.f at ht
        split at ht
        · obtain rfl := Option.some.inj ht
          have := numB_size (l.length : Int)
          omega
        · cases ht
      exact ⟨list_texts 0 A c l t r1 r2 w hr hc (by omega) ht hz h⟩
  clear hbig h hr
  go_enter Try.func16, Try.ntmps16
  go_wp2_with (go_at_call 31; refine HC.out.mono ?_; rintro e w1 ⟨rfl, hb⟩; have HB := Aside0.mk hb; clear hb)
  go_ret2
  exact ⟨rfl, HB.out⟩

set_option maxHeartbeats 1000000 in
theorem surmiseref01_Texts.calls (k : Nat) (A : Option Addr) (c : Nat) (l : List ByteArray) (r1 : ByteArray) (r2 : Int) (w : World) (hr : Kd.C Kd.string w A l.length l) (hc : l.length ≤ c) (h : surmiseref01_Texts.f k l = some (r1, r2)) :
    Calls Try.prog 17 #[.slice A l.length c] w fun e w' => e = .returned (.tuple #[.string r1, .int .i64 r2]) ∧ Below w.heap.size w w' := by
  unfold surmiseref01_Texts.f at h
  by_cases hb : 256 < l.length
  · rw [if_pos hb] at h
    simp only [Option.some.injEq, Prod.mk.injEq] at h
    obtain ⟨rfl, rfl⟩ := h
    go_enter Try.func17, Try.ntmps17
    go_wp2
    go_ret2
    exact ⟨rfl, Below.refl _ _⟩
  · rw [if_neg hb, Option.bind_eq_some_iff] at h
    obtain ⟨t, ht, h⟩ := h
    by_cases hz : t.size ≤ 140737488351232
    · rw [if_pos hz] at h
      exact ref_texts k A c l t r1 r2 w hr hc (by omega) ht hz h
    · rw [if_neg hz] at h
      cases h

end Go.Proofs.Ytgenlgajggmbbaa.Q
