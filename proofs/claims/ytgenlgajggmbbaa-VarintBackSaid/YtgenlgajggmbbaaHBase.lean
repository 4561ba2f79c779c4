/- Small words that all hand-written texts of this seat share. -/
import Derived.Test.YtgenlgajggmbbaaQ0
namespace Go.Proofs.Ytgenlgajggmbbaa.Q
open Go.RowKit Go.Proofs.YtgenlgajggmbbaaW.PrintWords Go.Proofs.YtgenlgajggmbbaaW.PrintLast Go.Proofs.YtgenlgajggmbbaaW.PrintMore

theorem ret_int {k : IntKind} {a b : Int} (h : a = b) : Ending.returned (.int k a) = .returned (.int k b) := by rw [h]
theorem ret_str {a b : ByteArray} (h : a = b) : Ending.returned (.string a) = .returned (.string b) := by rw [h]
theorem ret_bool {a b : Bool} (h : a = b) : Ending.returned (.bool a) = .returned (.bool b) := by rw [h]
theorem ret_val {a b : Value} (h : a = b) : Ending.returned a = .returned b := by rw [h]
theorem ret_two {a b c d : Value} (h : a = b) (k : c = d) : Ending.returned (.tuple #[a, c]) = .returned (.tuple #[b, d]) := by rw [h, k]
theorem ret_three {a b c d e f : Value} (h : a = b) (k : c = d) (l : e = f) : Ending.returned (.tuple #[a, c, e]) = .returned (.tuple #[b, d, f]) := by rw [h, k, l]
theorem bits_u32 (op : BinOp) (x y : Int) : 0 ≤ Go.bits op .u32 x y ∧ Go.bits op .u32 x y < 4294967296 := by
  unfold Go.bits
  rw [IntKind.wrap_u32]
  omega
theorem bits_u8 (op : BinOp) (x y : Int) : 0 ≤ Go.bits op .u8 x y ∧ Go.bits op .u8 x y < 256 := by
  unfold Go.bits
  rw [IntKind.wrap_u8]
  omega
theorem below_row {B g : Nat} {w0 w : World} (hb : Below B w0 w) (hg : B ≤ g) (cs : Array Value) : Below B w0 (w.setRow g cs) :=
  ⟨hb.os, hb.tape, hb.output, by simpa using hb.size, fun i hi => (setRow_other w g i cs (by omega)).trans (hb.block i hi)⟩
theorem xor_u32 (a b : Nat) (ha : a < 4294967296) (hb : b < 4294967296) : Go.bits .xor .u32 (a : Int) (b : Int) = ((a ^^^ b : Nat) : Int) := by
  have h32 : a ^^^ b < 4294967296 := Nat.xor_lt_two_pow (n := 32) ha hb
  unfold Go.bits
  rw [IntKind.wrap_u32]
  simp only [BitVec.ofInt_natCast, BitVec.toNat_xor, BitVec.toNat_ofNat]
  have e1 : a % 2 ^ IntKind.u32.bits = a := Nat.mod_eq_of_lt ha
  have e2 : b % 2 ^ IntKind.u32.bits = b := Nat.mod_eq_of_lt hb
  rw [e1, e2]
  omega
theorem xor_u8 (a b : Nat) (ha : a < 256) (hb : b < 256) : Go.bits .xor .u8 (a : Int) (b : Int) = ((a ^^^ b : Nat) : Int) := by
  have h8 : a ^^^ b < 256 := Nat.xor_lt_two_pow (n := 8) ha hb
  unfold Go.bits
  rw [IntKind.wrap_u8]
  simp only [BitVec.ofInt_natCast, BitVec.toNat_xor, BitVec.toNat_ofNat]
  have e1 : a % 2 ^ IntKind.u8.bits = a := Nat.mod_eq_of_lt ha
  have e2 : b % 2 ^ IntKind.u8.bits = b := Nat.mod_eq_of_lt hb
  rw [e1, e2]
  omega
theorem and1_u32 (a : Nat) (ha : a < 4294967296) : Go.bits .and .u32 (a : Int) 1 = ((a % 2 : Nat) : Int) := by
  have h := bits_mask .u32 32 (by decide) (fun n h0 h1 => by rw [IntKind.wrap_u32]; omega) 1 (by decide) (a : Int) (by omega) (by omega)
  simpa using h

end Go.Proofs.Ytgenlgajggmbbaa.Q
