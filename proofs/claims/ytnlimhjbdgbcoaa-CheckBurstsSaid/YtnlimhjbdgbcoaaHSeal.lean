/- The contract of surmiseref02.Seal. -/
import Derived.Test.YtnlimhjbdgbcoaaHMark
import Derived.Test.YtnlimhjbdgbcoaaQf12
namespace Go.Proofs.Ytnlimhjbdgbcoaa.Q
open Go.RowKit Go.Proofs.YtnlimhjbdgbcoaaW.PrintWords Go.Proofs.YtnlimhjbdgbcoaaW.PrintLast Go.Proofs.YtnlimhjbdgbcoaaW.PrintMore
set_option linter.unusedVariables false
set_option linter.unusedSimpArgs false

theorem refSum_range {k : Nat} {s : ByteArray} {r : Int} (h : surmiseref02_Sum.f k s = some r) : 0 ≤ r ∧ r < 4294967296 := by
  unfold surmiseref02_Sum.f at h
  rw [Option.bind_eq_some_iff] at h
  obtain ⟨t, _, h⟩ := h
  obtain rfl := Option.some.inj h
  exact bits_u32 _ _ _

/-- The first i bytes of a number, the lowest first; what is left of it. -/
def lowb (x : Int) : Nat → List Int
  | 0 => []
  | i + 1 => lowb x i ++ [(x / 256 ^ i) % 256]
theorem lowb_length (x : Int) (i : Nat) : (lowb x i).length = i := by
  induction i with
  | zero => rfl
  | succ i ih => simp [lowb, ih]
theorem div_step (x : Int) (i : Nat) : x / 256 ^ i / 256 = x / 256 ^ (i + 1) := by
  rw [Int.pow_succ, Int.ediv_ediv_of_nonneg (Int.pow_nonneg (by omega))]

def surmiseref02_Seal.f (k : Nat) (a0 : ByteArray) : Option ByteArray :=
  if a0.size ≤ 140737488351232 then (surmiseref02_Sum.f k a0).bind fun x => some (strOfNums (bytesOf a0 ++ lowb x 4)) else none
theorem surmiseref02_Seal.mono : ∀ a0 k, LeO (surmiseref02_Seal.f k a0) (surmiseref02_Seal.f (k + 1) a0) := by
  intro a0 k
  unfold surmiseref02_Seal.f
  exact LeO.ite (LeO.bind (surmiseref02_Sum.mono a0 k) (fun _ => LeO.refl _)) (LeO.refl _)

set_option maxHeartbeats 2000000 in
set_option maxRecDepth 100000 in
theorem surmiseref02_Seal.calls (k : Nat) (a0 : ByteArray) (r : ByteArray) (w : World) (h : surmiseref02_Seal.f k a0 = some r) :
    Calls Try.prog 17 #[.string a0] w fun e w' => e = .returned (.string r) ∧ Below w.heap.size w w' := by
  unfold surmiseref02_Seal.f at h
  split at h
  case isFalse => cases h
  case isTrue hsz =>
  rw [Option.bind_eq_some_iff] at h
  obtain ⟨x, hx, h⟩ := h
  have hr := refSum_range hx
  have A1 := Aside0.mk hx
  have HR := Aside0.mk (Option.some.inj h)
  have HX := Aside0.mk hr
  clear hx h hr
  obtain ⟨i0, hi, hz0, hz1, hz2⟩ := info_parts info5
  have hcv := fun W : World => Lib.run_convert_string_bytes (P := Try.prog) W 9 35 5 a0 Try.underlying9 Try.underlying35 Try.underlying5
  go_enter Try.func17, Try.ntmps17
  go_wp2_with (first | (go_at_call 12; refine (surmiseref02_Sum.calls k a0 x _ A1.out).mono ?_; rintro e w' ⟨rfl, ⟨nd, rfl⟩⟩))
  have hcv0 := Aside0.mk hcv
  clear hcv
  have HB0 := Aside0.mk (bytes_below (pw_below_drewN (Below.refl w.heap.size w) nd) (Nat.le_refl _) 5 a0)
  have HM0 := Aside0.mk (MOwn.of_bytes (w.drewN nd) w.heap.size 5 a0 (Nat.le_refl _) (by simp only [maxLen]; omega))
  go_loopg [3, 4, 5] 4 (fun kq v3 v4 v5 wr => ∃ (i : Nat) (y : Int), v5 = .int .i64 i ∧ v3 = .int .u32 y ∧ Aside0 (i + kq = 4 ∧ y = x / 256 ^ i ∧ 0 ≤ y ∧ y < 4294967296) ∧ Aside0 (MOwn wr w.heap.size 5 v4 (nums .u8 (bytesOf a0 ++ lowb x i))) ∧ Aside0 (Below w.heap.size w wr))
  case atStart => exact ⟨0, x, rfl, rfl, ⟨rfl, by simp, HX.out.1, HX.out.2⟩, ⟨by simpa [lowb, ← strCells_nums] using HM0.out⟩, HB0⟩
  case round =>
    clear HB0 HM0
    obtain ⟨i, y, rfl, rfl, ⟨hik, hy, hy0, hy1⟩, HM, HB⟩ := hrel
    have HY := Aside0.mk hy
    clear hy
    have hlen : (nums .u8 (bytesOf a0 ++ lowb x i)).length = a0.size + i := by rw [nums_length, List.length_append, bytesOf_length, lowb_length]
    have HL := Aside0.mk hlen
    clear hlen
    by_cases hlt : i < 4
    · go_wp2_with (first | ((with_reducible refine gate_dst (N := 19) rfl ?_); refine wpList_append_m _ rfl (.tmp 14) (.tmp 18) 35 rfl w.heap.size 5 i0 (.int .u8 0) 1 Try.underlying35 hi hz0 hz1 hz2 (by decide) rfl _ (nums .u8 (bytesOf a0 ++ lowb x i)) rfl (HM.out.below (below_alloc (Below.refl _ _) _)) ⟨wr.heap.size, 0, none⟩ 1 1 [.int .u8 (y % 256)] rfl rfl ?hn ?ho ?hl ?hb ?_))
      case hn =>
        intro j u hu
        match j, hu with
        | 0, hu => simp at hu; subst hu; simp [Addr.add]
      case ho => intro u hu; simp at hu; subst hu; rfl
      case hl => have := HL.out; omega
      case hb => have := HB.out.size; simp; omega
      intro v1 w1 hm1 hg1
      have e1 : nums .u8 (bytesOf a0 ++ lowb x i) ++ [.int .u8 (y % 256)] = nums .u8 (bytesOf a0 ++ lowb x (i + 1)) := by
        rw [HY.out]
        simp [nums, lowb]
      rw [e1] at hm1
      have HM1 := Aside0.mk hm1
      have HB1 : Aside0 (Below w.heap.size w w1) := ⟨(HB.out.alloc HB.out.size _).grown hg1 (by have := HB.out.size; simp; omega) (fun k hk => HM.out.base_le k hk)⟩
      have HY1 : Aside0 (y / 256 = x / 256 ^ (i + 1)) := ⟨by rw [HY.out, div_step]⟩
      clear hm1 hg1 e1 HM HB HL HY
      go_wp2
      go_roundg (gk - 1)
      case measure => omega
      case rel => exact ⟨i + 1, y / 256, by go_num, rfl, ⟨by omega, HY1.out, by omega, by omega⟩, HM1, HB1⟩
    · obtain rfl : i = 4 := by omega
      have hcs := HM.out.to_string Try.underlying35 Try.underlying5 Try.underlying9
      go_wp2
      go_ret
      exact ⟨ret_str HR.out, HB.out⟩

end Go.Proofs.Ytnlimhjbdgbcoaa.Q
