/- CheckBursts, walked: a sealed text in which some bits are turned, all within 32 side by side, is not opened. -/
import Derived.Test.YtnlimhjbdgbcoaaHBurst
namespace Go.Proofs.Ytnlimhjbdgbcoaa.Q
open Go.RowKit Go.Proofs.YtnlimhjbdgbcoaaW.PrintWords Go.Proofs.YtnlimhjbdgbcoaaW.PrintLast Go.Proofs.YtnlimhjbdgbcoaaW.PrintMore Go.Proofs.Ytnlimhjbdgbcoaa.Crc
set_option linter.unusedVariables false
set_option linter.unusedSimpArgs false

/-- Numbers as cells. -/
def nats (l : List Nat) : List Value := nums .u8 (l.map fun (n : Nat) => (n : Int))
theorem nats_bl (s : ByteArray) : nats (bl s) = nums .u8 (bytesOf s) := by rw [nats, bytesOf_bl]
/-- What stands in the row when i of the bits have been looked at. -/
structure Turned (l : List Nat) (S : ByteArray) (at_ bits i : Nat) : Prop where
  len : l.length = S.size
  lt : ∀ c ∈ l, c < 256
  val : val l = val (bl S) ^^^ 2 ^ at_ * (bits % 2 ^ i)

theorem Turned.step {l : List Nat} {S : ByteArray} {a x i : Nat} (h : Turned l S a x i) (hb : x / 2 ^ i % 2 = 1) (hj : (a + i) / 8 < l.length) : Turned (l.set ((a + i) / 8) (l[(a + i) / 8] ^^^ 2 ^ ((a + i) % 8))) S a x (i + 1) := by
  have h8 : 2 ^ ((a + i) % 8) < 256 := Nat.pow_lt_pow_right (a := 2) (m := (a + i) % 8) (n := 8) (by decide) (Nat.mod_lt _ (by decide))
  refine ⟨by rw [List.length_set]; exact h.len, fun c hc => ?_, ?_⟩
  · rcases List.mem_or_eq_of_mem_set hc with hc | rfl
    · exact h.lt c hc
    · exact Nat.xor_lt_two_pow (n := 8) (h.lt _ (List.getElem_mem hj)) h8
  · have e : 8 * ((a + i) / 8) + (a + i) % 8 = a + i := by omega
    rw [val_set l _ _ hj h.lt (Nat.mod_lt _ (by decide)), h.val, bits_more, if_pos hb, e, Nat.xor_assoc]
theorem Turned.skip {l : List Nat} {S : ByteArray} {a x i : Nat} (h : Turned l S a x i) (hb : ¬ x / 2 ^ i % 2 = 1) : Turned l S a x (i + 1) :=
  ⟨h.len, h.lt, by rw [h.val, bits_more, if_neg hb]⟩
theorem bit_of (bits : Int) (h0 : 0 ≤ bits) (h1 : bits < 4294967296) (i : Nat) : Go.bits .and .u32 (bits / 2 ^ i) 1 = ((bits.toNat / 2 ^ i % 2 : Nat) : Int) := by
  obtain ⟨x, rfl⟩ := Int.eq_ofNat_of_zero_le h0
  have e : ((x : Int) / 2 ^ i) = ((x / 2 ^ i : Nat) : Int) := by simp
  have hlt : x / 2 ^ i < 4294967296 := Nat.lt_of_le_of_lt (Nat.div_le_self _ _) (by omega)
  rw [e, and1_u32 _ hlt, Int.toNat_natCast]
/-- The byte that is stored. -/
theorem byte_of (at_ : Int) (h0 : 0 ≤ at_) (i y : Nat) (hy : y < 256) : Go.bits .xor .u8 (y : Int) (2 ^ ((at_ + (i : Int)) % 8).toNat % 256) = ((y ^^^ 2 ^ ((at_.toNat + i) % 8) : Nat) : Int) := by
  obtain ⟨a, rfl⟩ := Int.eq_ofNat_of_zero_le h0
  have e1 : (((a : Int) + (i : Int)) % 8).toNat = (a + i) % 8 := by omega
  have h8 : 2 ^ ((a + i) % 8) < 256 := Nat.pow_lt_pow_right (a := 2) (m := (a + i) % 8) (n := 8) (by decide) (Nat.mod_lt _ (by decide))
  have e2 : ((2 : Int) ^ ((a + i) % 8)) = ((2 ^ ((a + i) % 8) : Nat) : Int) := by simp
  rw [e1, Int.toNat_natCast, e2]
  generalize 2 ^ ((a + i) % 8) = q at h8
  have e3 : (q : Int) % 256 = (q : Int) := by omega
  rw [e3, xor_u8 y q hy h8]
theorem nats_set (l : List Nat) (j y : Nat) : nums .u8 ((l.map fun (n : Nat) => (n : Int)).set j (y : Int)) = nats (l.set j y) := by
  rw [nats, List.map_set]

set_option maxHeartbeats 4000000 in
set_option maxRecDepth 100000 in
theorem bursts_walk (s : ByteArray) (at_ : Int) (bits : Int) (w : World) (h0 : -9223372036854775808 ≤ at_) (h1 : at_ ≤ 9223372036854775807) (hb0 : 0 ≤ bits) (hb1 : bits < 4294967296) :
    Calls Try.prog 6 #[.string s, .int .i64 at_, .int .u32 bits] w fun e w' => e = .returned (.bool true) ∧ Below w.heap.size w w' := by
  obtain ⟨t, et, ht⟩ := few_spec s
  obtain ⟨k, hk⟩ : ∃ k, k = 100000 := ⟨_, rfl⟩
  have hse := refseal_crc t (by omega) k (by omega)
  have haw := awake_true k (by omega)
  obtain ⟨S, hS⟩ : ∃ S, S = t ++ fourB (sumN (bl t)) := ⟨_, rfl⟩
  have hSz : S.size = t.size + 4 := by rw [hS, ByteArray.size_append, fourB_size]
  rw [← hS] at hse
  have HT := Aside0.mk et
  have HE := Aside0.mk hse
  have HA := Aside0.mk haw
  have HS := Aside0.mk (And.intro hS hSz)
  have hN : S.size ≤ 3004 := by omega
  have hN4 : 4 ≤ S.size := by omega
  clear et hse haw hS hSz hk ht
  have hcv := fun W : World => Lib.run_convert_string_bytes (P := Try.prog) W 9 35 5 S Try.underlying9 Try.underlying35 Try.underlying5
  by_cases hneg : at_ < 0
  · go_enter Try.func6, Try.ntmps6
    go_wp2_with (first
      | (go_at_call 9; refine (surmiselaw02_few.calls s t _ HT.out).mono ?_; rintro e w' ⟨rfl, ⟨nd, rfl⟩⟩)
      | (go_at_call 17; refine (surmiseref02_Seal.calls k t S _ HE.out).mono ?_; rintro e w1 ⟨rfl, hb⟩; have HB1 := Aside0.mk (bytes_below (Below.trans (pw_below_drewN (Below.refl w.heap.size w) nd) hb) hb.size 5 S); clear hb)
      | (go_at_call 11; refine (surmiselaw02_awake.calls k true _ HA.out).mono ?_; rintro e w2 ⟨rfl, hb⟩; have HB2 := Aside0.mk (Below.trans HB1.out (hb.mono HB1.out.size)); clear hb HB1; have HB1 := HB2; clear HB2))
    go_ret
    exact ⟨rfl, HB1.out⟩
  · by_cases hbig : 8 * (S.size : Int) ≤ at_
    · go_enter Try.func6, Try.ntmps6
      go_wp2_with (first
        | (go_at_call 9; refine (surmiselaw02_few.calls s t _ HT.out).mono ?_; rintro e w' ⟨rfl, ⟨nd, rfl⟩⟩)
        | (go_at_call 17; refine (surmiseref02_Seal.calls k t S _ HE.out).mono ?_; rintro e w1 ⟨rfl, hb⟩; have HB1 := Aside0.mk (bytes_below (Below.trans (pw_below_drewN (Below.refl w.heap.size w) nd) hb) hb.size 5 S); clear hb)
        | (go_at_call 11; refine (surmiselaw02_awake.calls k true _ HA.out).mono ?_; rintro e w2 ⟨rfl, hb⟩; have HB2 := Aside0.mk (Below.trans HB1.out (hb.mono HB1.out.size)); clear hb HB1; have HB1 := HB2; clear HB2))
      go_ret
      exact ⟨rfl, HB1.out⟩
    · have ha0 : 0 ≤ at_ := by omega
      have ha1 : at_ < 8 * (S.size : Int) := by omega
      clear hneg h0 h1 hbig
      go_enter Try.func6, Try.ntmps6
      go_wp2_with (first
        | (go_at_call 9; refine (surmiselaw02_few.calls s t _ HT.out).mono ?_; rintro e w' ⟨rfl, ⟨nd, rfl⟩⟩)
        | (go_at_call 17; refine (surmiseref02_Seal.calls k t S _ HE.out).mono ?_; rintro e w1 ⟨rfl, hb⟩; have HB1 := Aside0.mk (bytes_below (Below.trans (pw_below_drewN (Below.refl w.heap.size w) nd) hb) hb.size 5 S); have HM1 := Aside0.mk (MOwn.of_bytes w1 w.heap.size 5 S (Nat.le_trans (pw_below_drewN (Below.refl w.heap.size w) nd).size hb.size) (by simp only [maxLen]; omega)); clear hb)
        | (go_at_call 11; refine (surmiselaw02_awake.calls k true _ HA.out).mono ?_; rintro e w2 ⟨rfl, hb⟩; have HB2 := Aside0.mk (Below.trans HB1.out (hb.mono HB1.out.size)); have HM2 := Aside0.mk (HM1.out.below hb); clear HM1; have HM1 := HM2; clear HM2; clear hb HB1; have HB1 := HB2; clear HB2))
      have HM3 : Aside0 (MOwn w2 w.heap.size 5 (.slice (some ⟨w1.heap.size, 0, none⟩) S.size (grownCap w1 S.size 0 5)) (nats (bl S))) := ⟨by rw [nats_bl, ← strCells_nums]; exact HM1.out⟩
      obtain ⟨g, hg⟩ : ∃ g, g = w1.heap.size := ⟨_, rfl⟩
      obtain ⟨cap, hcap⟩ : ∃ cap, cap = grownCap w1 S.size 0 5 := ⟨_, rfl⟩
      have HGL : Aside0 (w.heap.size ≤ g) := ⟨by
        rcases HM3.out with ⟨h, _⟩ | ⟨g', c', cur, fr, he, hb, _⟩
        · cases h
        · simp only [Value.slice.injEq, Option.some.injEq, Addr.mk.injEq] at he
          rw [hg]
          omega⟩
      rw [← hg, ← hcap] at HM3
      rw [← hg, ← hcap]
      have HX := Aside0.mk (And.intro hb0 hb1)
      clear HM1 hg hcap hcv hb0 hb1
      go_loopg [9, 10] 32 (fun kq v9 v10 wr => ∃ (l : List Nat) (i : Nat) (b : Bool), v9 = .bool b ∧ v10 = .int .i64 i ∧ Aside0 (i + kq = 32) ∧ Aside0 (Turned l S at_.toNat bits.toNat i) ∧ Aside0 (b = decide (bits.toNat % 2 ^ i ≠ 0)) ∧ Aside0 (MOwn wr w.heap.size 5 (.slice (some ⟨g, 0, none⟩) S.size cap) (nats l)) ∧ Aside0 (Below w.heap.size w wr))
      case atStart => exact ⟨bl S, 0, false, rfl, rfl, ⟨rfl⟩, ⟨⟨bl_length S, bl_lt S, by simp [Nat.mod_one]⟩⟩, ⟨by simp [Nat.mod_one]⟩, HM3, HB1⟩
      case round =>
        clear HM3 HB1
        obtain ⟨l, i, b, rfl, rfl, HI, HTn, HBb, HM, HB⟩ := hrel
        have hi32 : i ≤ 32 := by have := HI.out; omega
        by_cases hin : i < 32 ∧ (i : Int) < 8 * (S.size : Int) - at_
        · obtain ⟨hi, hj⟩ := hin
          by_cases hbit : Go.bits .and .u32 (bits / 2 ^ i) 1 = 1
          · have hb0 : (Go.bits .and .u32 (bits / 2 ^ i) 1 == 1) = true := beq_iff_eq.mpr hbit
            have hq0 : 0 ≤ (at_ + (i : Int)) / 8 := by omega
            have hq1 : (at_ + (i : Int)) / 8 < (S.size : Int) := by omega
            have hjl : ((at_ + (i : Int)) / 8).toNat < l.length := by rw [HTn.out.len]; omega
            obtain ⟨y, hy⟩ : ∃ y, y = l[((at_ + (i : Int)) / 8).toNat] := ⟨_, rfl⟩
            have HY : Aside0 (∃ h : ((at_ + (i : Int)) / 8).toNat < l.length, y = l[((at_ + (i : Int)) / 8).toNat]) := ⟨⟨hjl, hy⟩⟩
            have hcf : wr.cell? ⟨g, ((at_ + (i : Int)) / 8).toNat, none⟩ = some (.int .u8 (y : Int)) ∧ wr.frozen? ⟨g, ((at_ + (i : Int)) / 8).toNat, none⟩ = false := by
              obtain ⟨g', c', he, _, hc, hf⟩ := MOwn.at_ HM.out ((at_ + (i : Int)) / 8).toNat (by rw [List.length_map]; exact hjl)
              simp only [Value.slice.injEq, Option.some.injEq, Addr.mk.injEq] at he
              obtain ⟨⟨rfl, _⟩, _⟩ := he
              refine ⟨?_, hf⟩
              rw [hc, hy]
              simp [hjl]
            obtain ⟨hcell, hfro⟩ := hcf
            have HBit := Aside0.mk hbit
            clear hbit hy hjl
            go_wp2
            go_region
            go_wp2
            have hx := HX.out
            have hbn : bits.toNat / 2 ^ i % 2 = 1 := by
              have := bit_of bits hx.1 hx.2 i
              have := HBit.out
              omega
            obtain ⟨hjl, hyl⟩ := HY.out
            have hj8 : ((at_ + (i : Int)) / 8).toNat = (at_.toNat + i) / 8 := by omega
            have hjl2 : (at_.toNat + i) / 8 < l.length := by omega
            have hyl2 : y = l[(at_.toNat + i) / 8] := by
              rw [hyl]
              congr 1
            have hy8 : y < 256 := by rw [hyl2]; exact HTn.out.lt _ (List.getElem_mem hjl2)
            have HM2 : Aside0 (MOwn (wr.setCell ⟨g, ((at_ + (i : Int)) / 8).toNat, none⟩ (.int .u8 (Go.bits .xor .u8 (y : Int) (2 ^ ((at_ + (i : Int)) % 8).toNat % 256)))).drew w.heap.size 5 (.slice (some ⟨g, 0, none⟩) S.size cap) (nats (l.set ((at_.toNat + i) / 8) (l[(at_.toNat + i) / 8] ^^^ 2 ^ ((at_.toNat + i) % 8))))) := ⟨by
              have h := MOwn.set_ HM.out ((at_.toNat + i) / 8) (by rw [List.length_map]; exact hjl2) ((y ^^^ 2 ^ ((at_.toNat + i) % 8) : Nat) : Int)
              rw [nats_set] at h
              rw [byte_of at_ ha0 i y hy8, hj8, ← hyl2]
              exact h⟩
            have HB2 : Aside0 (Below w.heap.size w (wr.setCell ⟨g, ((at_ + (i : Int)) / 8).toNat, none⟩ (.int .u8 (Go.bits .xor .u8 (y : Int) (2 ^ ((at_ + (i : Int)) % 8).toNat % 256)))).drew) := ⟨below_drew (HB.out.setCell HGL.out _)⟩
            go_roundg (gk - 1)
            case measure => have := HI.out; omega
            case rel => exact ⟨_, i + 1, true, rfl, by go_num, ⟨by have := HI.out; omega⟩, ⟨HTn.out.step hbn hjl2⟩, ⟨(decide_eq_true ((some_more _ _).2 (.inl hbn))).symm⟩, HM2, HB2⟩
          · have hb0 : (Go.bits .and .u32 (bits / 2 ^ i) 1 == 1) = false := beq_eq_false_iff_ne.mpr hbit
            have HBit := Aside0.mk hbit
            clear hbit
            go_wp2
            have hx := HX.out
            have hbn : ¬ bits.toNat / 2 ^ i % 2 = 1 := by
              have := bit_of bits hx.1 hx.2 i
              have := HBit.out
              omega
            have hiff : decide (bits.toNat % 2 ^ (i + 1) ≠ 0) = decide (bits.toNat % 2 ^ i ≠ 0) := by
              apply decide_eq_decide.2
              rw [some_more]
              exact ⟨fun h => h.resolve_left hbn, .inr⟩
            go_roundg (gk - 1)
            case measure => have := HI.out; omega
            case rel => exact ⟨l, i + 1, b, rfl, by go_num, ⟨by have := HI.out; omega⟩, ⟨HTn.out.skip hbn⟩, ⟨by rw [hiff]; exact HBb.out⟩, HM, HB⟩
        · obtain ⟨U, hU⟩ : ∃ U, U = strOfNums (l.map fun (n : Nat) => (n : Int)) := ⟨_, rfl⟩
          have hbl : bl U = l := by
            rw [hU, bl_nums _ (by intro x hx; rw [List.mem_map] at hx; obtain ⟨n, hn, rfl⟩ := hx; have := HTn.out.lt n hn; omega), List.map_map]
            have e : (Int.toNat ∘ fun (n : Nat) => (n : Int)) = id := by funext n; rfl
            rw [e, List.map_id]
          have hUs : U.size = S.size := by rw [← bl_length, hbl, HTn.out.len]
          have hcs := MOwn.to_string (P := Try.prog) Try.underlying35 Try.underlying5 Try.underlying9 HM.out
          rw [← hU] at hcs
          obtain ⟨r1, r2, hr⟩ : ∃ r1 r2, openN U = (r1, r2) := ⟨_, _, rfl⟩
          have hop : check_Open.f (S.size + 20) U = some (r1, r2) := by rw [← hr]; exact open_crc U (by omega) _ (by omega)
          have HO := Aside0.mk hop
          have hbt : b = true → r1 = (⟨#[]⟩ : ByteArray) ∧ r2 = 7 := by
            intro hb
            have hne : bits.toNat % 2 ^ i ≠ 0 := of_decide_eq_true (HBb.out.symm.trans hb)
            have hlt : bits.toNat % 2 ^ i < 4294967296 := Nat.lt_of_le_of_lt (Nat.mod_le _ _) (by have := HX.out; omega)
            have h := burst_none t U at_.toNat (bits.toNat % 2 ^ i) hlt hne (by rw [hUs, HS.out.2]) (by rw [hbl, HTn.out.val, HS.out.1, bl_append, bl_fourB])
            rw [hr] at h
            simpa using h
          clear hop hr hbl hUs hU
          cases b with
          | true =>
            obtain ⟨rfl, rfl⟩ := hbt rfl
            by_cases hi : i < 32
            all_goals
              go_wp2_with (go_at_call 18; refine (check_Open.calls _ U _ _ _ HO.out).mono ?_; rintro e w3 ⟨rfl, hb3⟩; have HB3 := Aside0.mk (Below.trans HB.out (hb3.mono HB.out.size)); clear hb3)
              go_ret
              exact ⟨rfl, HB3.out⟩
          | false =>
            clear hbt
            by_cases hi : i < 32
            all_goals
              go_wp2_with (go_at_call 18; refine (check_Open.calls _ U _ _ _ HO.out).mono ?_; rintro e w3 ⟨rfl, hb3⟩; have HB3 := Aside0.mk (Below.trans HB.out (hb3.mono HB.out.size)); clear hb3)
              go_ret
              exact ⟨rfl, HB3.out⟩

/-- The walk, by what the row reads. -/
theorem bursts_row (s : ByteArray) (at_ : Int) (bits : Int) (w : World) (_hs : s.size ≤ 140737488351232) (ha : (Lit.int .i64 at_).wf = true) (hb : (Lit.int .u32 bits).wf = true) :
    Calls Try.prog 6 #[.string s, .int .i64 at_, .int .u32 bits] w fun e w' => e = .returned (.bool true) ∧ Below w.heap.size w w' := by
  have m1 : IntKind.i64.min = -9223372036854775808 := rfl
  have m2 : IntKind.i64.max = 9223372036854775807 := rfl
  have m3 : IntKind.u32.min = 0 := rfl
  have m4 : IntKind.u32.max = 4294967295 := rfl
  simp only [Lit.wf, Bool.and_eq_true, decide_eq_true_eq] at ha hb
  exact bursts_walk s at_ bits w (by omega) (by omega) (by omega) (by omega)

end Go.Proofs.Ytnlimhjbdgbcoaa.Q
