/- Texts of this session laid together (merge.py): YtclmhodgfhkgcaaQ0, YtclmhodgfhkgcaaHBase, YtclmhodgfhkgcaaHBox, YtclmhodgfhkgcaaQeq30, YtclmhodgfhkgcaaNBase, YtclmhodgfhkgcaaNSmall, YtclmhodgfhkgcaaRP, YtclmhodgfhkgcaaNAt. -/
import Derived.Test.YtclmhodgfhkgcaaProg
import Derived.Below
import Derived.Deep.Draws
import Derived.Deep.AppendLies
import Derived.Maps.AppendAt
import Derived.OwnWalk
import Derived.Laws.BytesArg
import Derived.Laws.MakeOwn
import Derived.Laws.OwnMore
import Derived.Deep.OwnRows
import Derived.Tactics
import Derived.Lib.ConvBytes
import Derived.Laws.Slices
import Derived.WalkKit
import Derived.KernelRfl
import Derived.RowKit3
import Derived.Deep.LoopGhost
import Derived.Deep.QuietTactic
import Derived.BigQuiet
import Derived.WideLaws
import Derived.Deep.DeepCutAuto
import Derived.Deep.CutBlock
import Derived.Deep.RegionHeld3
import Derived.Laws.Rows
import Derived.Lib.AppendStr
import Derived.ArgAppend
import Derived.Laws.IdiomCopy
import Derived.OrdersHeld
import Derived.Laws.BitsLemmas
import Derived.RowKit
import Derived.WalkMore
import Derived.Test.YtclmhodgfhkgcaaWWords
import Derived.Test.YtclmhodgfhkgcaaWLast
import Derived.Test.YtclmhodgfhkgcaaWTab
import Derived.Test.YtclmhodgfhkgcaaWFour
import Derived.Test.YtclmhodgfhkgcaaWQPut
import Derived.Test.YtclmhodgfhkgcaaWApart
import Derived.Test.YtclmhodgfhkgcaaWArr
import Derived.Test.YtclmhodgfhkgcaaWZeros
import Derived.Test.YtclmhodgfhkgcaaWFoot
import Derived.Test.YtclmhodgfhkgcaaWKept
import Derived.Test.YtclmhodgfhkgcaaWShare
import Derived.Test.YtclmhodgfhkgcaaWN
import Derived.Test.YtclmhodgfhkgcaaWFootNe
import Derived.Test.YtclmhodgfhkgcaaWAt
import Derived.Test.YtclmhodgfhkgcaaWEqStruct
import Derived.Test.YtclmhodgfhkgcaaWRepsOne
import Derived.Test.YtclmhodgfhkgcaaWInv
import Derived.Test.YtclmhodgfhkgcaaWInvWords
import Derived.Test.YtclmhodgfhkgcaaWGuard
import Derived.Test.YtclmhodgfhkgcaaWNEv
import Derived.Test.YtclmhodgfhkgcaaWMore
import Derived.Outline
import Derived.Maps.OwnSet
import Derived.DeepKeys4
import Derived.IntWalk
import Derived.Carry
-- By px.py, a program of this session that drives the kit's printer: laid out of the translation; Lean checks it.
namespace Go.Proofs.Ytclmhodgfhkgcaa.Q
open Go.RowKit Go.Proofs.YtclmhodgfhkgcaaW.PrintWords Go.Proofs.YtclmhodgfhkgcaaW.PrintLast Go.Proofs.YtclmhodgfhkgcaaW.PrintMore
attribute [local go_sem] max2_int min2_int max_two min_two max_three min_three max_four min_four   -- for this text's walks alone
set_option linter.unusedVariables false
set_option linter.unusedSimpArgs false




/-- Strings in order: '>' is '<' the other way round. -/
theorem bytesLess_swap : ∀ (x y : List UInt8), (!(Op.bytesLess x y || x == y)) = Op.bytesLess y x
  | [], [] => rfl
  | [], _ :: _ => rfl
  | _ :: _, [] => rfl
  | a :: x, b :: y => by
    have ih := bytesLess_swap x y
    simp only [Op.bytesLess]
    by_cases h : a = b
    · subst h
      have h1 : decide (a < a) = false := decide_eq_false (by simp)
      have h2 : (a :: x == a :: y) = (x == y) := by simp
      have h3 : (a == a) = true := by simp
      rw [h1, h2, h3, Bool.false_or, Bool.true_and, Bool.false_or, Bool.true_and]
      exact ih
    · have h2 : (a :: x == b :: y) = false := by simp [h]
      have h3 : (a == b) = false := by simp [h]
      have h4 : (b == a) = false := by simp [Ne.symm h]
      rw [h2, h3, h4, Bool.false_and, Bool.false_and, Bool.or_false, Bool.or_false, Bool.or_false]
      have hab : a.toNat ≠ b.toNat := fun h' => h (UInt8.toNat_inj.mp h')
      by_cases hl : a < b
      · have h5 : ¬ b < a := by rw [UInt8.lt_iff_toNat_lt] at hl ⊢; omega
        rw [decide_eq_true hl, decide_eq_false h5]
        rfl
      · have h5 : b < a := by rw [UInt8.lt_iff_toNat_lt] at hl ⊢; omega
        rw [decide_eq_false hl, decide_eq_true h5]
        rfl
@[go_sem high] theorem gtr_swap (t : TypeId) (a b : ByteArray) : binOp .gtr t (.string a) (.string b) = pure (.bool (Op.bytesLess b.toList a.toList)) := by
  rw [← bytesLess_swap]
  simp [binOp, Op.stringOp]
@[go_sem high] theorem leq_swap (t : TypeId) (a b : ByteArray) : binOp .leq t (.string a) (.string b) = pure (.bool !(Op.bytesLess b.toList a.toList)) := by
  rw [← bytesLess_swap, Bool.not_not]
  simp [binOp, Op.stringOp]
/-- A call through a value that is a function which captures nothing: as goesL_. -/
theorem goesV_ {P : Program} {ops : Array Oper} {Q : Exit → Act → World → Prop} {rest : List Oper} {oi : Oper} {a : Act} {w : World} (N : Option Tmp) (hd : oi.dst = N) (hg : oi.guard = none) {x : Operand} {f : FuncId} {fn : Func} {xs : Array Operand} {ts : Array TypeId} (hf : P.funcs[f]? = some fn) (hname : (fn.name == "runtime.NumGoroutine") = false) (hb : fn.body.isSome = true) (args : Array Value)
    (hop : oi.op = .call { callee := .value x, args := xs, argTypes := ts }) (hargs : xs.map a.eval = args)
    (h : Calls P f args w fun e w' => ∃ v, e = .returned v ∧ wpList P ops Q rest (a.put N v) w') (hx : a.eval x = .func (.func f) #[] #[] := by rfl) : wpList P ops Q (oi :: rest) a w := by
  refine wpList_plain hg fun K hK => ?_
  have he := enters_ hf hname hb args w
  have hrun : (execOp a.eval oi).run P w = .ok (.enter f args) w := by
    unfold execOp
    simp [hop, resolve, Deferred.ofValue, invoke, hx, hargs, he]
  unfold Oper.wp
  rw [hrun, Oper.upon_enter]
  refine h.mono fun e w'' hh => ?_
  obtain ⟨v, rfl, hk⟩ := hh
  subst hd
  exact hK _ _ hk
/-- Behind an append of a string's bytes: the row's block is the old one's, or a new one. -/
theorem str_hat {P : Program} (W : World) (base : Nat) (t u ty e : TypeId) (i : TypeInfo) (ht : P.underlying t = some (.slice e)) (hu : P.underlying u = some .string) (hi : P.info? e = some i) (hz : i.zero = some (.int .u8 0)) (hsize : i.size = 1) (hby : i.bytes = 1)
    (v : Value) (n : Nat) (xs : List Value) (hown : W.ownsRow base e 1 v n xs) (s : ByteArray) (hbytes : n + s.size ≤ 140737488355328) (v1 : Value) (w1 : World)
    (hr : (Builtin.append_ #[t, u] ty #[v, .string s]).run P W = .ok v1 w1) (hnil : v1 = .slice none 0 0 ↔ v = .slice none 0 0 ∧ s.size = 0) : v1.ownBlock = v.ownBlock ∨ ∃ b, v1.ownBlock = some b ∧ W.heap.size ≤ b := by
  have hxl : xs.length = n := by simpa using hown.1
  rcases hown.2 with ⟨rfl, rfl⟩ | ⟨g, cap, cur, rfl, hbg, hg, hnc, hcm, hcs, htake⟩
  · by_cases hm : s.size = 0
    · rw [hnil.mpr ⟨rfl, hm⟩]
      exact .inl rfl
    · have hr2 := run_append_nil_string (P := P) W t u ty e i (.int .u8 0) ht hu hi hz s (by omega) (by omega) (by rw [hby]; omega)
      rw [hr2] at hr
      injection hr with hv _
      rw [← hv]
      exact .inr ⟨_, rfl, Nat.le_refl _⟩
  · by_cases hroom : n + s.size ≤ cap
    · have hcs' : cur.size = cap := by simpa using hcs
      have hr2 := Lib.run_append_room_string (P := P) W t u ty e i ht hu hi hsize g n cap cur hg s hroom (by omega)
      rw [hr2] at hr
      injection hr with hv _
      rw [← hv]
      exact .inl rfl
    · have holds : ∀ j u, xs[j]? = some u → W.cell? ((⟨g, 0, none⟩ : Addr).add j) = some u := hown.cells (g := g) rfl
      have hr2 := Lib.run_append_grow_string (P := P) W t u ty e i (.int .u8 0) ht hu hi hz ⟨g, 0, none⟩ n cap xs (by rw [hsize]; simpa using hxl) holds s (by omega) (by omega) (by rw [hby]; exact growslice_fits (by omega) (by omega))
      rw [hr2] at hr
      injection hr with hv _
      rw [← hv]
      exact .inr ⟨_, rfl, Nat.le_refl _⟩
theorem append_str_hat {P : Program} {ops : Array Oper} {rest : List Oper} {o : Oper} {a : Act} {Q : Exit → Act → World → Prop} {w0 W : World} (base : Nat) (hgd : o.guard = none) (s x : Operand) (t u e : TypeId)
    (ho : o.op = .call { callee := .builtin .append, args := #[s, x], argTypes := #[t, u] })
    (ht : P.underlying t = some (.slice e)) (hu : P.underlying u = some .string) (hinfo : (P.info? e).map (fun i => (i.zero, i.size, i.bytes)) = some (some (.int .u8 0), 1, 1))
    (v : Value) (xs : List Int) (y : ByteArray) (hs : a.eval s = v) (hx : a.eval x = .string y)
    (HO : W.ownsRow base e 1 v xs.length (nums .u8 xs)) (HB : Below base w0 W) (hbase : base ≤ W.heap.size) (hl : xs.length + y.size ≤ 140737488355328)
    (h : ∀ v1 w1, w1.ownsRow base e 1 v1 (xs ++ bytesOf y).length (nums .u8 (xs ++ bytesOf y)) → Below base w0 w1 → W.grownBy w1 v.ownBlock → (v1.ownBlock = v.ownBlock ∨ ∃ b, v1.ownBlock = some b ∧ W.heap.size ≤ b) → wpList P ops Q rest (a.put o.dst v1) w1) :
    wpList P ops Q (o :: rest) a W := by
  obtain ⟨i0, hi, hzz⟩ := Option.map_eq_some_iff.1 hinfo
  simp only [Prod.mk.injEq] at hzz
  obtain ⟨hz0, hz1, hz2⟩ := hzz
  refine wpList_plain hgd fun K hK => ?_
  obtain ⟨v1, w1, hr, hown, hg, hnil⟩ := Lib.run_append_own_string (P := P) W base t u o.type e i0 ht hu hi hz0 hz1 hz2 v xs.length (nums .u8 xs) HO y (by simp only [maxLen]; omega) hl hbase
  have hat := str_hat W base t u o.type e i0 ht hu hi hz0 hz1 hz2 v xs.length (nums .u8 xs) HO y hl v1 w1 hr hnil
  have hl2 : (xs ++ bytesOf y).length = xs.length + y.size := by rw [List.length_append, bytesOf_length]
  have hc : nums .u8 (xs ++ bytesOf y) = nums .u8 xs ++ Lib.strCells y := by
    rw [nums_append]
    congr 1
    simp [nums, bytesOf, Lib.strCells]
  unfold Oper.wp execOp
  simp only [ho, resolve, invoke, builtin, Sem.run_bind, Sem.run_pure, Result.andThen_ok, List.map_toArray, List.map_cons, List.map_nil, hs, hx, hr]
  exact hK _ _ (h v1 w1 (by rw [hl2, hc]; exact hown) (HB.grown hg hbase (own_base HO)) hg hat)

def errW : Option Int → Value
  | none => .nilIface
  | some c => .iface 0 (.int .i64 c)
theorem errW_none : errW none = .nilIface := rfl
theorem errW_some (c : Int) : errW (some c) = .iface 0 (.int .i64 c) := rfl

theorem info4 : (Try.prog.info? 4).map (fun i => (i.zero, i.size, i.bytes)) = some (some (.bool false), 1, 1) := by kernel_rfl
-- the values' own types
/-! #### struct type 30 -/
structure S30 where
  f0 : Int
  f1 : Int
  f2 : ByteArray
def z30 : S30 := ⟨(0 : Int), (0 : Int), (⟨#[]⟩ : ByteArray)⟩
def k30 : Kd S30 := Kd.iso (Kd.pair (Kd.int .i64) (Kd.pair (Kd.int .i64) Kd.string)) (fun x : S30 => (x.f0, x.f1, x.f2))
theorem k30_open {w : World} {x : S30} {cs : List Value} (h : k30.K w x cs) : cs = [.int .i64 x.f0, .int .i64 x.f1, .string x.f2] := by
  obtain ⟨_, _, rfl, rfl, ⟨_, _, rfl, rfl, rfl⟩⟩ := h
  exact rfl
theorem k30_openM {w : World} {base : Nat} {ok : Nat → Prop} {x : S30} {cs : List Value} (h : k30.M w base ok x cs) : cs = [.int .i64 x.f0, .int .i64 x.f1, .string x.f2] := by
  obtain ⟨_, _, rfl, rfl, ⟨_, _, rfl, rfl, rfl⟩⟩ := h
  exact rfl
theorem k30_mk (w : World) (x : S30)  : k30.K w x [.int .i64 x.f0, .int .i64 x.f1, .string x.f2] := ⟨[.int .i64 x.f0], [.int .i64 x.f1, .string x.f2], rfl, rfl, ⟨[.int .i64 x.f1], [.string x.f2], rfl, rfl, rfl⟩⟩
theorem k30_mkM (w : World) (base : Nat) (ok : Nat → Prop) (x : S30)  : k30.M w base ok x [.int .i64 x.f0, .int .i64 x.f1, .string x.f2] := ⟨[.int .i64 x.f0], [.int .i64 x.f1, .string x.f2], rfl, rfl, ⟨[.int .i64 x.f1], [.string x.f2], rfl, rfl, rfl⟩⟩
def rd_T30 (xs : List S30) (i : Int) : S30 := xs.getD i.toNat z30
theorem at_T30 {w : World} {A : Option Addr} {n : Nat} {xs : List S30} (h : Kd.C k30 w A n xs) (i : Int) (h0 : 0 ≤ i) (h1 : i < n) : ∃ ad , A = some ad ∧ w.cell? (ad.add (i.toNat * 3)) = some (.int .i64 (rd_T30 xs i).f0) ∧ w.cell? ⟨(ad.add (i.toNat * 3)).block, (ad.add (i.toNat * 3)).off + 1, none⟩ = some (.int .i64 (rd_T30 xs i).f1) ∧ w.cell? ⟨(ad.add (i.toNat * 3)).block, (ad.add (i.toNat * 3)).off + 2, none⟩ = some (.string (rd_T30 xs i).f2) := by
  obtain ⟨ad, c, e, _, hK, hc0⟩ := Kd.C_get h z30 i h0 h1
  have hc : ∀ j u, c[j]? = some u → w.cell? (ad.add (i.toNat * 3 + j)) = some u := hc0
  obtain rfl := k30_open hK
  exact ⟨ad, e, hc 0 _ rfl, by rw [← add_field _ _ 1 (by omega)]; exact hc 1 _ rfl, by rw [← add_field _ _ 2 (by omega)]; exact hc 2 _ rfl⟩

end Go.Proofs.Ytclmhodgfhkgcaa.Q

/- Small words that all hand-written texts of this seat share. -/
namespace Go.Proofs.Ytclmhodgfhkgcaa.Q
open Go.RowKit Go.Proofs.YtclmhodgfhkgcaaW.PrintWords Go.Proofs.YtclmhodgfhkgcaaW.PrintLast Go.Proofs.YtclmhodgfhkgcaaW.PrintMore

theorem ret_int {k : IntKind} {a b : Int} (h : a = b) : Ending.returned (.int k a) = .returned (.int k b) := by rw [h]
theorem ret_str {a b : ByteArray} (h : a = b) : Ending.returned (.string a) = .returned (.string b) := by rw [h]
theorem ret_bool {a b : Bool} (h : a = b) : Ending.returned (.bool a) = .returned (.bool b) := by rw [h]
theorem ret_val {a b : Value} (h : a = b) : Ending.returned a = .returned b := by rw [h]
theorem ret_two {a b c d : Value} (h : a = b) (k : c = d) : Ending.returned (.tuple #[a, c]) = .returned (.tuple #[b, d]) := by rw [h, k]
theorem ret_three {a b c d e f : Value} (h : a = b) (k : c = d) (l : e = f) : Ending.returned (.tuple #[a, c, e]) = .returned (.tuple #[b, d, f]) := by rw [h, k, l]
theorem bits_u32 (op : BinOp) (x y : Int) : 0 ≤ Go.bits op .u32 x y ∧ Go.bits op .u32 x y < 4294967296 := by
  unfold Go.bits
  rw [IntKind.wrap_u32]
  omega
theorem bits_u8 (op : BinOp) (x y : Int) : 0 ≤ Go.bits op .u8 x y ∧ Go.bits op .u8 x y < 256 := by
  unfold Go.bits
  rw [IntKind.wrap_u8]
  omega
theorem below_row {B g : Nat} {w0 w : World} (hb : Below B w0 w) (hg : B ≤ g) (cs : Array Value) : Below B w0 (w.setRow g cs) :=
  ⟨hb.os, hb.tape, hb.output, by simpa using hb.size, fun i hi => (setRow_other w g i cs (by omega)).trans (hb.block i hi)⟩
theorem xor_u32 (a b : Nat) (ha : a < 4294967296) (hb : b < 4294967296) : Go.bits .xor .u32 (a : Int) (b : Int) = ((a ^^^ b : Nat) : Int) := by
  have h32 : a ^^^ b < 4294967296 := Nat.xor_lt_two_pow (n := 32) ha hb
  unfold Go.bits
  rw [IntKind.wrap_u32]
  simp only [BitVec.ofInt_natCast, BitVec.toNat_xor, BitVec.toNat_ofNat]
  have e1 : a % 2 ^ IntKind.u32.bits = a := Nat.mod_eq_of_lt ha
  have e2 : b % 2 ^ IntKind.u32.bits = b := Nat.mod_eq_of_lt hb
  rw [e1, e2]
  omega
theorem xor_u8 (a b : Nat) (ha : a < 256) (hb : b < 256) : Go.bits .xor .u8 (a : Int) (b : Int) = ((a ^^^ b : Nat) : Int) := by
  have h8 : a ^^^ b < 256 := Nat.xor_lt_two_pow (n := 8) ha hb
  unfold Go.bits
  rw [IntKind.wrap_u8]
  simp only [BitVec.ofInt_natCast, BitVec.toNat_xor, BitVec.toNat_ofNat]
  have e1 : a % 2 ^ IntKind.u8.bits = a := Nat.mod_eq_of_lt ha
  have e2 : b % 2 ^ IntKind.u8.bits = b := Nat.mod_eq_of_lt hb
  rw [e1, e2]
  omega
theorem and1_u32 (a : Nat) (ha : a < 4294967296) : Go.bits .and .u32 (a : Int) 1 = ((a % 2 : Nat) : Int) := by
  have h := bits_mask .u32 32 (by decide) (fun n h0 h1 => by rw [IntKind.wrap_u32]; omega) 1 (by decide) (a : Int) (by omega) (by omega)
  simpa using h

end Go.Proofs.Ytclmhodgfhkgcaa.Q

/- The cells of a block, all at once. -/
namespace Go.Proofs.Ytclmhodgfhkgcaa.Q
open Go.RowKit Go.Proofs.YtclmhodgfhkgcaaW.PrintWords Go.Proofs.YtclmhodgfhkgcaaW.PrintLast Go.Proofs.YtclmhodgfhkgcaaW.PrintMore

theorem box1 {w : World} {g t : Nat} {a0 : Value} (h : w.heap[g]? = some (.cells #[a0] t (0, 0))) : w.cell? ⟨g, 0, none⟩ = some a0 ∧ w.frozen? ⟨g, 0, none⟩ = false := ⟨(blk_cell h 0).trans rfl, blk_frozen h 0⟩
theorem box2 {w : World} {g t : Nat} {a0 a1 : Value} (h : w.heap[g]? = some (.cells #[a0, a1] t (0, 0))) : w.cell? ⟨g, 0, none⟩ = some a0 ∧ w.cell? ⟨g, 1, none⟩ = some a1 ∧ w.frozen? ⟨g, 0, none⟩ = false ∧ w.frozen? ⟨g, 1, none⟩ = false := ⟨(blk_cell h 0).trans rfl, (blk_cell h 1).trans rfl, blk_frozen h 0, blk_frozen h 1⟩
theorem box3 {w : World} {g t : Nat} {a0 a1 a2 : Value} (h : w.heap[g]? = some (.cells #[a0, a1, a2] t (0, 0))) : w.cell? ⟨g, 0, none⟩ = some a0 ∧ w.cell? ⟨g, 1, none⟩ = some a1 ∧ w.cell? ⟨g, 2, none⟩ = some a2 ∧ w.frozen? ⟨g, 0, none⟩ = false ∧ w.frozen? ⟨g, 1, none⟩ = false ∧ w.frozen? ⟨g, 2, none⟩ = false := ⟨(blk_cell h 0).trans rfl, (blk_cell h 1).trans rfl, (blk_cell h 2).trans rfl, blk_frozen h 0, blk_frozen h 1, blk_frozen h 2⟩
theorem box4 {w : World} {g t : Nat} {a0 a1 a2 a3 : Value} (h : w.heap[g]? = some (.cells #[a0, a1, a2, a3] t (0, 0))) : w.cell? ⟨g, 0, none⟩ = some a0 ∧ w.cell? ⟨g, 1, none⟩ = some a1 ∧ w.cell? ⟨g, 2, none⟩ = some a2 ∧ w.cell? ⟨g, 3, none⟩ = some a3 ∧ w.frozen? ⟨g, 0, none⟩ = false ∧ w.frozen? ⟨g, 1, none⟩ = false ∧ w.frozen? ⟨g, 2, none⟩ = false ∧ w.frozen? ⟨g, 3, none⟩ = false := ⟨(blk_cell h 0).trans rfl, (blk_cell h 1).trans rfl, (blk_cell h 2).trans rfl, (blk_cell h 3).trans rfl, blk_frozen h 0, blk_frozen h 1, blk_frozen h 2, blk_frozen h 3⟩
theorem box5 {w : World} {g t : Nat} {a0 a1 a2 a3 a4 : Value} (h : w.heap[g]? = some (.cells #[a0, a1, a2, a3, a4] t (0, 0))) : w.cell? ⟨g, 0, none⟩ = some a0 ∧ w.cell? ⟨g, 1, none⟩ = some a1 ∧ w.cell? ⟨g, 2, none⟩ = some a2 ∧ w.cell? ⟨g, 3, none⟩ = some a3 ∧ w.cell? ⟨g, 4, none⟩ = some a4 ∧ w.frozen? ⟨g, 0, none⟩ = false ∧ w.frozen? ⟨g, 1, none⟩ = false ∧ w.frozen? ⟨g, 2, none⟩ = false ∧ w.frozen? ⟨g, 3, none⟩ = false ∧ w.frozen? ⟨g, 4, none⟩ = false := ⟨(blk_cell h 0).trans rfl, (blk_cell h 1).trans rfl, (blk_cell h 2).trans rfl, (blk_cell h 3).trans rfl, (blk_cell h 4).trans rfl, blk_frozen h 0, blk_frozen h 1, blk_frozen h 2, blk_frozen h 3, blk_frozen h 4⟩
theorem box6 {w : World} {g t : Nat} {a0 a1 a2 a3 a4 a5 : Value} (h : w.heap[g]? = some (.cells #[a0, a1, a2, a3, a4, a5] t (0, 0))) : w.cell? ⟨g, 0, none⟩ = some a0 ∧ w.cell? ⟨g, 1, none⟩ = some a1 ∧ w.cell? ⟨g, 2, none⟩ = some a2 ∧ w.cell? ⟨g, 3, none⟩ = some a3 ∧ w.cell? ⟨g, 4, none⟩ = some a4 ∧ w.cell? ⟨g, 5, none⟩ = some a5 ∧ w.frozen? ⟨g, 0, none⟩ = false ∧ w.frozen? ⟨g, 1, none⟩ = false ∧ w.frozen? ⟨g, 2, none⟩ = false ∧ w.frozen? ⟨g, 3, none⟩ = false ∧ w.frozen? ⟨g, 4, none⟩ = false ∧ w.frozen? ⟨g, 5, none⟩ = false := ⟨(blk_cell h 0).trans rfl, (blk_cell h 1).trans rfl, (blk_cell h 2).trans rfl, (blk_cell h 3).trans rfl, (blk_cell h 4).trans rfl, (blk_cell h 5).trans rfl, blk_frozen h 0, blk_frozen h 1, blk_frozen h 2, blk_frozen h 3, blk_frozen h 4, blk_frozen h 5⟩
theorem box7 {w : World} {g t : Nat} {a0 a1 a2 a3 a4 a5 a6 : Value} (h : w.heap[g]? = some (.cells #[a0, a1, a2, a3, a4, a5, a6] t (0, 0))) : w.cell? ⟨g, 0, none⟩ = some a0 ∧ w.cell? ⟨g, 1, none⟩ = some a1 ∧ w.cell? ⟨g, 2, none⟩ = some a2 ∧ w.cell? ⟨g, 3, none⟩ = some a3 ∧ w.cell? ⟨g, 4, none⟩ = some a4 ∧ w.cell? ⟨g, 5, none⟩ = some a5 ∧ w.cell? ⟨g, 6, none⟩ = some a6 ∧ w.frozen? ⟨g, 0, none⟩ = false ∧ w.frozen? ⟨g, 1, none⟩ = false ∧ w.frozen? ⟨g, 2, none⟩ = false ∧ w.frozen? ⟨g, 3, none⟩ = false ∧ w.frozen? ⟨g, 4, none⟩ = false ∧ w.frozen? ⟨g, 5, none⟩ = false ∧ w.frozen? ⟨g, 6, none⟩ = false := ⟨(blk_cell h 0).trans rfl, (blk_cell h 1).trans rfl, (blk_cell h 2).trans rfl, (blk_cell h 3).trans rfl, (blk_cell h 4).trans rfl, (blk_cell h 5).trans rfl, (blk_cell h 6).trans rfl, blk_frozen h 0, blk_frozen h 1, blk_frozen h 2, blk_frozen h 3, blk_frozen h 4, blk_frozen h 5, blk_frozen h 6⟩
theorem box8 {w : World} {g t : Nat} {a0 a1 a2 a3 a4 a5 a6 a7 : Value} (h : w.heap[g]? = some (.cells #[a0, a1, a2, a3, a4, a5, a6, a7] t (0, 0))) : w.cell? ⟨g, 0, none⟩ = some a0 ∧ w.cell? ⟨g, 1, none⟩ = some a1 ∧ w.cell? ⟨g, 2, none⟩ = some a2 ∧ w.cell? ⟨g, 3, none⟩ = some a3 ∧ w.cell? ⟨g, 4, none⟩ = some a4 ∧ w.cell? ⟨g, 5, none⟩ = some a5 ∧ w.cell? ⟨g, 6, none⟩ = some a6 ∧ w.cell? ⟨g, 7, none⟩ = some a7 ∧ w.frozen? ⟨g, 0, none⟩ = false ∧ w.frozen? ⟨g, 1, none⟩ = false ∧ w.frozen? ⟨g, 2, none⟩ = false ∧ w.frozen? ⟨g, 3, none⟩ = false ∧ w.frozen? ⟨g, 4, none⟩ = false ∧ w.frozen? ⟨g, 5, none⟩ = false ∧ w.frozen? ⟨g, 6, none⟩ = false ∧ w.frozen? ⟨g, 7, none⟩ = false := ⟨(blk_cell h 0).trans rfl, (blk_cell h 1).trans rfl, (blk_cell h 2).trans rfl, (blk_cell h 3).trans rfl, (blk_cell h 4).trans rfl, (blk_cell h 5).trans rfl, (blk_cell h 6).trans rfl, (blk_cell h 7).trans rfl, blk_frozen h 0, blk_frozen h 1, blk_frozen h 2, blk_frozen h 3, blk_frozen h 4, blk_frozen h 5, blk_frozen h 6, blk_frozen h 7⟩

end Go.Proofs.Ytclmhodgfhkgcaa.Q

-- By px.py, a program of this session that drives the kit's printer: laid out of the translation; Lean checks it.
namespace Go.Proofs.Ytclmhodgfhkgcaa.Q
open Go.RowKit Go.Proofs.YtclmhodgfhkgcaaW.PrintWords Go.Proofs.YtclmhodgfhkgcaaW.PrintLast Go.Proofs.YtclmhodgfhkgcaaW.PrintMore
attribute [local go_sem] max2_int min2_int max_two min_two max_three min_three max_four min_four   -- for this text's walks alone
set_option linter.unusedVariables false
set_option linter.unusedSimpArgs false

theorem eqA30 (d : Nat) (w : World) (x0 y0 : Int) (x1 y1 : Int) (x2 y2 : ByteArray) :
    (Op.equalIn (d + 2) 30 (.agg #[.int .i64 x0, .int .i64 x1, .string x2]) (.agg #[.int .i64 y0, .int .i64 y1, .string y2])).run Try.prog w = .ok (x0 == y0 && (x1 == y1 && (x2.toList == y2.toList))) w := by
  refine eqA_of Try.underlying30 (by kernel_rfl) ?_
  refine eqf_cons (by rfl) (by go_simp; rfl) (by go_simp; rfl) (by go_simp) ?_
  refine eqf_cons (by rfl) (by go_simp; rfl) (by go_simp; rfl) (by go_simp) ?_
  exact eqf_last (by rfl) (by go_simp; rfl) (by go_simp; rfl) (by go_simp)
end Go.Proofs.Ytclmhodgfhkgcaa.Q

/- A net in memory: its cells, its messages, the map of the links that are cut. -/
namespace Go.Proofs.Ytclmhodgfhkgcaa.Q
open Go.RowKit Go.Proofs.YtclmhodgfhkgcaaW.PrintWords Go.Proofs.YtclmhodgfhkgcaaW.PrintLast Go.Proofs.YtclmhodgfhkgcaaW.PrintMore
set_option linter.unusedVariables false
set_option linter.unusedSimpArgs false

/-- Nothing but the blocks of S has changed; new ones may be there. -/
structure Chg (S : Nat → Prop) (w w' : World) : Prop where
  low : Below 0 w w'
  keep : ∀ k, k < w.heap.size → ¬ S k → w'.heap[k]? = w.heap[k]?
theorem Chg.refl (S : Nat → Prop) (w : World) : Chg S w w := ⟨Below.refl _ _, fun _ _ _ => rfl⟩
theorem Chg.trans {S : Nat → Prop} {a b c : World} (h : Chg S a b) (k : Chg S b c) : Chg S a c :=
  ⟨h.low.trans k.low, fun i hi hn => (k.keep i (Nat.lt_of_lt_of_le hi h.low.size) hn).trans (h.keep i hi hn)⟩
theorem Chg.mono {S S' : Nat → Prop} {a b : World} (h : Chg S a b) (hs : ∀ k, S k → S' k) : Chg S' a b := ⟨h.low, fun i hi hn => h.keep i hi (fun hk => hn (hs i hk))⟩
theorem Chg.of_below {a b : World} (h : Below a.heap.size a b) (S : Nat → Prop) : Chg S a b := ⟨h.mono (Nat.zero_le _), fun i hi _ => h.block i hi⟩
theorem Chg.drewN {S : Nat → Prop} {a b : World} (h : Chg S a b) (n : Nat) : Chg S a (b.drewN n) := ⟨pw_below_drewN h.low n, h.keep⟩
theorem Chg.drew {S : Nat → Prop} {a b : World} (h : Chg S a b) : Chg S a b.drew := ⟨below_drew1 h.low, h.keep⟩
theorem Chg.set {S : Nat → Prop} {a b : World} (h : Chg S a b) {p : Addr} (hp : S p.block ∨ a.heap.size ≤ p.block) (u : Value) : Chg S a (b.setCell p u) :=
  ⟨h.low.setCell (Nat.zero_le _) u, fun i hi hn => (Below.heap_setCell b p u i (fun he => by subst he; rcases hp with hp | hp; exact hn hp; omega)).trans (h.keep i hi hn)⟩
theorem Chg.alloc {S : Nat → Prop} {a b : World} (h : Chg S a b) (o : Obj) : Chg S a (b.alloc o) :=
  ⟨h.low.alloc (Nat.zero_le _) o, fun i hi hn => (Below.heap_alloc b o i (Nat.lt_of_lt_of_le hi h.low.size)).trans (h.keep i hi hn)⟩
theorem Chg.below {S : Nat → Prop} {B : Nat} {a b c : World} (h : Chg S b c) (hb : Below B a b) (hB : B ≤ b.heap.size) (hs : ∀ k, S k → B ≤ k) : Below B a c :=
  ⟨h.low.os.trans hb.os, h.low.tape.trans hb.tape, h.low.output.trans hb.output, Nat.le_trans hb.size h.low.size, fun k hk => (h.keep k (by omega) (fun hS => by have := hs k hS; omega)).trans (hb.block k hk)⟩
theorem Chg.grown {S : Nat → Prop} {a b c : World} {r : Option Nat} (h : Chg S a b) (hg : b.grownBy c r) (hr : ∀ k, r = some k → S k ∨ a.heap.size ≤ k) : Chg S a c :=
  ⟨h.low.trans ((Below.refl 0 b).grown hg (Nat.zero_le _) (fun k _ => Nat.zero_le _)), fun k hk hn => (hg.block k (Nat.lt_of_lt_of_le hk h.low.size) (fun e => by rcases hr k e.symm with h1 | h1; exact hn h1; omega)).trans (h.keep k hk hn)⟩

/-- A link's key. -/
abbrev KL (a b : Int) : Value := .agg #[.int .i64 a, .int .i64 b]
def Nd (a : Int) : Prop := 0 ≤ a ∧ a < 16
theorem Nd.wf {a : Int} (h : Nd a) : (Lit.int .i64 a).wf = true := by
  unfold Nd at h
  have h1 : IntKind.i64.min ≤ a := by
    have : IntKind.i64.min = -9223372036854775808 := by decide
    omega
  have h2 : a ≤ IntKind.i64.max := by
    have : IntKind.i64.max = 9223372036854775807 := by decide
    omega
  simp only [Lit.wf, Bool.and_eq_true, decide_eq_true_eq]
  exact ⟨h1, h2⟩
theorem key_two {P : Program} {k e : TypeId} {n : Nat} {f g : Field} (hn : P.types.size = n + 1) (hu : P.underlying k = some (.struct #[f, g])) (hf : f.type = e) (hg : g.type = e) (hf0 : f.offset = 0) (hg0 : g.offset = 1) (hfn : f.name ≠ "_") (hgn : g.name ≠ "_")
    (he : P.underlying e = some (.int .i64)) (hce : P.cellsOf e = 1) (hck : P.cellsOf k = 2) (hkt : P.keyType k = true) (hfo : ∀ a b, (KL a b).formed P k = true) {a b : Int} (ha : (Lit.int .i64 a).wf = true) (hb : (Lit.int .i64 b).wf = true) : ∃ kl, keyOf P k (KL a b) = some kl := by
  unfold keyOf
  rw [hu]
  simp [hkt, hfo, hn, Program.keyLits, hu, hck, Value.cells, he, ha, hb, hce, hf, hg, hf0, hg0, hfn, hgn]
theorem rowL : (60 : TypeId) < Try.prog.types.size := of_decide_eq_true (by kernel_rfl)
theorem wideL : (match Try.prog.underlying 60 with | some (.array _ _) | some (.struct _) => true | _ => false) = true := by kernel_rfl
theorem laidL : laidOutB Try.prog = true := by kernel_rfl
theorem lawL : Maps.Keyed Try.prog 60 := .of_law (deep_law_laid laidL (m := 3) (by omega) rowL (by kernel_rfl) wideL)
theorem keyTL : Try.prog.keyType 60 = true := by kernel_rfl
theorem cellsL : Try.prog.cellsOf 60 = 2 := by kernel_rfl
theorem formedL (a b : Int) : (KL a b).formed Try.prog 60 = true := by
  simp [Value.formed, Try.underlying60, cellsL]
theorem keyL {a b : Int} (ha : Nd a) (hb : Nd b) : ∃ kl, keyOf Try.prog 60 (KL a b) = some kl := by
  obtain ⟨n, hn⟩ : ∃ n, Try.prog.types.size = n + 1 := by
    have h : 60 < Try.prog.types.size := rowL
    generalize Try.prog.types.size = z at h
    exact ⟨z - 1, by omega⟩
  exact key_two (e := 3) hn Try.underlying60 rfl rfl rfl rfl (by decide) (by decide) Try.underlying3 (by kernel_rfl) cellsL keyTL formedL ha.wf hb.wf

/-- Which links are cut: block c is the map. -/
def CutAt (w : World) (c n : Nat) (f : Int → Int → Bool) : Prop :=
  ∃ D : DataW Unit, w.ownsMap Try.prog 60 (plainElem Try.prog 3) c n D ∧ ∀ a b kl, keyOf Try.prog 60 (KL a b) = some kl → D.atKey kl (.lit (.int .i64 0)) = .lit (.int .i64 (if f a b then 1 else 0))
theorem zeroI (w : World) : (zeroValue 3).run Try.prog w = .ok (.int .i64 0) w := by kernel_rfl
theorem CutAt.look {w : World} {c n : Nat} {f : Int → Int → Bool} (h : CutAt w c n f) {a b : Int} (ha : Nd a) (hb : Nd b) :
    (Instr.lookup 56 (.map (some c)) (KL a b) false).run Try.prog w = .ok (.int .i64 (if f a b then 1 else 0)) w := by
  obtain ⟨D, hown, hf⟩ := h
  obtain ⟨kl, hk⟩ := keyL ha hb
  obtain ⟨x, hrun, hat, -⟩ := hown.lookup_int lawL Try.underlying56 Try.underlying3 (zeroI w) hk
  rw [hf a b kl hk] at hat
  injection hat with hat
  injection hat with _ hat
  rw [hrun, hat]
def cutSet (f : Int → Int → Bool) (a b : Int) (x : Bool) : Int → Int → Bool := fun p q => if p = a ∧ q = b then x else f p q
theorem CutAt.put {w : World} {c n : Nat} {f : Int → Int → Bool} (h : CutAt w c n f) {a b : Int} (ha : Nd a) (hb : Nd b) (hn : n < 1000000) :
    ∃ w', (Instr.mapUpdate 56 (.map (some c)) (KL a b) (.int .i64 1)).run Try.prog w = .ok () w' ∧ CutAt w' c (n + 1) (cutSet f a b true) ∧ w.grownBy w' (some c) := by
  obtain ⟨D, hown, hf⟩ := h
  obtain ⟨kl, hk⟩ := keyL ha hb
  obtain ⟨w', hrun, hown', hg⟩ := hown.update lawL Try.underlying56 (by unfold maxLen; omega) hk (plainElem_int Try.underlying3 (by decide : (Lit.int .i64 1).wf = true))
  refine ⟨w', hrun, ⟨_, hown', fun p q kq hq => ?_⟩, hg⟩
  unfold cutSet
  by_cases e : p = a ∧ q = b
  · obtain ⟨rfl, rfl⟩ := e
    have ek : kl = kq := Option.some.inj (hk.symm.trans hq)
    subst ek
    rw [Maps.atKey_put_same (hown.isMap) (lawL.key hk)]
    simp
  · simp only [if_neg e]
    rw [Maps.atKey_put_other (fun he => e ?_)]
    · exact hf p q kq hq
    · subst he
      have h1 := lawL.inj hq hk
      simp at h1
      exact h1
theorem CutAt.del {w : World} {c n : Nat} {f : Int → Int → Bool} (h : CutAt w c n f) {a b : Int} (ha : Nd a) (hb : Nd b) (ty : TypeId) :
    ∃ w', (Builtin.delete_ #[56, 60] ty #[.map (some c), KL a b]).run Try.prog w = .ok (.tuple #[]) w' ∧ CutAt w' c n (cutSet f a b false) ∧ w.grownBy w' (some c) := by
  obtain ⟨D, hown, hf⟩ := h
  obtain ⟨kl, hk⟩ := keyL ha hb
  obtain ⟨w', hrun, hown', hg⟩ := hown.drop lawL Try.underlying56 hk ty
  refine ⟨w', hrun, ⟨_, hown', fun p q kq hq => ?_⟩, hg.grown⟩
  unfold cutSet
  by_cases e : p = a ∧ q = b
  · obtain ⟨rfl, rfl⟩ := e
    have ek : kl = kq := Option.some.inj (hk.symm.trans hq)
    subst ek
    rw [Maps.atKey_del_same]
    simp
  · simp only [if_neg e]
    rw [Maps.atKey_del_other (fun he => e ?_)]
    · exact hf p q kq hq
    · subst he
      have h1 := lawL.inj hq hk
      simp at h1
      exact h1
theorem CutAt.made (w : World) : CutAt (w.alloc (.map #[] 0)) w.heap.size 0 (fun _ _ => false) :=
  ⟨_, World.ownsMap_made w _ _ _, fun a b kl _ => rfl⟩
theorem CutAt.block {w w' : World} {c n : Nat} {f : Int → Int → Bool} (h : CutAt w c n f) (he : w'.heap[c]? = w.heap[c]?) : CutAt w' c n f := by
  obtain ⟨D, ⟨es, clock, hb, F, hs, hD⟩, hf⟩ := h
  exact ⟨D, ⟨es, clock, he.trans hb, F, hs, hD⟩, hf⟩
theorem CutAt.lt {w : World} {c n : Nat} {f : Int → Int → Bool} (h : CutAt w c n f) : c < w.heap.size := by
  obtain ⟨D, hown, -⟩ := h
  exact hown.lt
theorem CutAt.chg {w w' : World} {S : Nat → Prop} {c n : Nat} {f : Int → Int → Bool} (h : CutAt w c n f) (hc : Chg S w w') (hs : ¬ S c) : CutAt w' c n f := h.block (hc.keep c h.lt hs)

/-- The state of a net. -/
structure Nt where
  nodes : Int
  l : List S30
  cut : Int → Int → Bool
  lost : Int
/-- A row of messages that is read. -/
def RowM (w : World) (ok : Nat → Prop) (v : Value) (xs : List S30) : Prop := Kd.V k30 30 w 0 ok v xs
structure NetAt (ok : Nat → Prop) (w : World) (b c n : Nat) (X : Nt) : Prop where
  mk ::
  ne : b ≠ c
  cells : ∃ v, w.heap[b]? = some (.cells #[.int .i64 X.nodes, v, .map (some c), .int .i64 X.lost] 58 (0, 0)) ∧ RowM w ok v X.l
  cuts : CutAt w c n X.cut
theorem RowM.chg {w w' : World} {ok S : Nat → Prop} {v : Value} {xs : List S30} (h : RowM w ok v xs) (hc : Chg S w w') (hs : ∀ k, ok k → ¬ S k) : RowM w' ok v xs :=
  Kd.V_step h (fun k hk hlt => hc.keep k hlt (hs k hk))
theorem NetAt.chg {w w' : World} {ok S : Nat → Prop} {b c n : Nat} {X : Nt} (h : NetAt ok w b c n X) (hc : Chg S w w') (hb : ¬ S b) (hcc : ¬ S c) (hs : ∀ k, ok k → ¬ S k) : NetAt ok w' b c n X := by
  obtain ⟨hne, ⟨v, hv, hR⟩, hC⟩ := h
  exact ⟨hne, ⟨v, (hc.keep b (blk_lt hv) hb).trans hv, hR.chg hc hs⟩, hC.chg hc hcc⟩
theorem NetAt.lt {w : World} {ok : Nat → Prop} {b c n : Nat} {X : Nt} (h : NetAt ok w b c n X) : b < w.heap.size := by
  obtain ⟨v, hv, -⟩ := h.cells
  exact blk_lt hv
theorem NetAt.open {w : World} {ok : Nat → Prop} {b c n : Nat} {X : Nt} (h : NetAt ok w b c n X) :
    w.cell? ⟨b, 0, none⟩ = some (.int .i64 X.nodes) ∧ (∃ A k, w.cell? ⟨b, 1, none⟩ = some (.slice A X.l.length k) ∧ X.l.length ≤ k ∧ RowM w ok (.slice A X.l.length k) X.l) ∧ w.cell? ⟨b, 2, none⟩ = some (.map (some c)) ∧ w.cell? ⟨b, 3, none⟩ = some (.int .i64 X.lost) ∧ (∀ j, w.frozen? ⟨b, j, none⟩ = false) := by
  obtain ⟨v, hv, hR⟩ := h.cells
  obtain ⟨A, k, rfl⟩ := Kd.V_slice hR
  refine ⟨(blk_cell hv _).trans rfl, ⟨A, k, (blk_cell hv _).trans rfl, (Kd.V_at hR).2.1, hR⟩, (blk_cell hv _).trans rfl, (blk_cell hv _).trans rfl, fun j => blk_frozen hv j⟩
/-- Another row of messages, another count of the lost ones. -/
theorem NetAt.setL {w : World} {ok : Nat → Prop} {b c n : Nat} {X : Nt} (h : NetAt ok w b c n X) (hok : ∀ k, ok k → k ≠ b) {v : Value} {xs : List S30} (hv : RowM w ok v xs) : NetAt ok (w.setCell ⟨b, 1, none⟩ v) b c n { X with l := xs } := by
  obtain ⟨hne, ⟨u, hu, hR⟩, hC⟩ := h
  exact ⟨hne, ⟨v, blk_set hu _ _, Kd.V_far hv hok _⟩, hC.block (Below.heap_setCell w ⟨b, 1, none⟩ v c (fun e => hne e.symm))⟩
theorem NetAt.setLost {w : World} {ok : Nat → Prop} {b c n : Nat} {X : Nt} (h : NetAt ok w b c n X) (hok : ∀ k, ok k → k ≠ b) (x : Int) : NetAt ok (w.setCell ⟨b, 3, none⟩ (.int .i64 x)) b c n { X with lost := x } := by
  obtain ⟨hne, ⟨u, hu, hR⟩, hC⟩ := h
  exact ⟨hne, ⟨u, blk_set hu _ _, Kd.V_far hR hok _⟩, hC.block (Below.heap_setCell w ⟨b, 3, none⟩ _ c (fun e => hne e.symm))⟩

end Go.Proofs.Ytclmhodgfhkgcaa.Q

/- The contracts of the net's small functions: New, between, Lost. -/
namespace Go.Proofs.Ytclmhodgfhkgcaa.Q
open Go.RowKit Go.Proofs.YtclmhodgfhkgcaaW.PrintWords Go.Proofs.YtclmhodgfhkgcaaW.PrintLast Go.Proofs.YtclmhodgfhkgcaaW.PrintMore
attribute [local go_sem] max2_int min2_int max_two min_two max_three min_three max_four min_four
set_option linter.unusedVariables false
set_option linter.unusedSimpArgs false

def X0 (n : Int) : Nt := ⟨n, [], fun _ _ => false, 0⟩
theorem New_ok (n : Int) (h1 : 1 ≤ n) (h2 : n ≤ 16) (w : World) : Calls Try.prog 8 #[.int .i64 n] w fun e w' => e = .returned (.tuple #[.pointer (some ⟨w.heap.size + 1, 0, none⟩), .int .i64 0]) ∧ (∀ ok, NetAt ok w' (w.heap.size + 1) w.heap.size 0 (X0 n)) ∧ Below w.heap.size w w' := by
  have hmm := @run_makeMap Try.prog
  go_enter Try.func8, Try.ntmps8
  go_wp2
  go_ret2
  refine ⟨by simp, fun ok => ⟨by omega, ⟨_, ?_, Kd.V_nil _ _ _ _ _⟩, ?_⟩, below_alloc (below_alloc (Below.refl _ _) _) _⟩
  · have := blk_new (w.alloc (.map #[] 0)) (.cells #[.int .i64 n, .slice none 0 0, .map (some w.heap.size), .int .i64 0] 58 (0, 0))
    simpa [X0] using this
  · exact (CutAt.made w).block (Below.heap_alloc _ _ _ (by simp))
theorem New_bad (n : Int) (h : n < 1 ∨ 16 < n) (w : World) : Calls Try.prog 8 #[.int .i64 n] w fun e w' => e = .returned (.tuple #[.pointer none, .int .i64 2]) ∧ w = w' := by
  rcases h with h | h
  case' inr => have h1 : ¬ n < 1 := by omega
  all_goals
    go_enter Try.func8, Try.ntmps8
    go_wp2
    go_ret2
    exact ⟨rfl, rfl⟩
theorem Lost_calls (ok : Nat → Prop) (b c n : Nat) (X : Nt) (w : World) (hT : NetAt ok w b c n X) : Calls Try.prog 17 #[.pointer (some ⟨b, 0, none⟩)] w fun e w' => e = .returned (.int .i64 X.lost) ∧ w = w' := by
  obtain ⟨h0, -, -, h3, -⟩ := hT.open
  clear hT
  go_enter Try.func17, Try.ntmps17
  go_wp2
  go_ret
  exact ⟨rfl, rfl⟩

/-- Are both nodes, and unlike? -/
def Two (X : Nt) (p q : Int) : Prop := 0 ≤ p ∧ 0 ≤ q ∧ p < X.nodes ∧ q < X.nodes ∧ p ≠ q
instance (X : Nt) (p q : Int) : Decidable (Two X p q) := by unfold Two; infer_instance
set_option maxHeartbeats 1000000 in
theorem between_calls (ok : Nat → Prop) (b c n : Nat) (X : Nt) (p q : Int) (w : World) (hT : NetAt ok w b c n X) :
    Calls Try.prog 25 #[.pointer (some ⟨b, 0, none⟩), .int .i64 p, .int .i64 q] w fun e w' => e = .returned (.tuple #[KL (min p q) (max p q), .bool (decide (Two X p q))]) ∧ Chg (fun _ => False) w w' := by
  obtain ⟨h0, -, -, -, -⟩ := hT.open
  have hlt := hT.lt
  clear hT
  have hcs : (p < 0) ∨ (0 ≤ p ∧ q < 0) ∨ (0 ≤ p ∧ 0 ≤ q ∧ X.nodes ≤ p) ∨ (0 ≤ p ∧ 0 ≤ q ∧ p < X.nodes ∧ X.nodes ≤ q) ∨ (0 ≤ p ∧ 0 ≤ q ∧ p < X.nodes ∧ q < X.nodes ∧ p = q) ∨ (0 ≤ p ∧ 0 ≤ q ∧ p < X.nodes ∧ q < X.nodes ∧ p ≠ q) := by omega
  have D0 : ¬ Two X p q → Aside0 (decide (Two X p q) = false) := fun h => ⟨decide_eq_false h⟩
  have D1 : Two X p q → Aside0 (decide (Two X p q) = true) := fun h => ⟨decide_eq_true h⟩
  unfold Two at D0 D1
  rcases hcs with c1 | ⟨c1, c2⟩ | ⟨c1, c2, c3⟩ | ⟨c1, c2, c3, c4⟩ | ⟨c1, c2, c3, c4, c5⟩ | ⟨c1, c2, c3, c4, c5⟩
  case' inr.inr.inr.inr.inl => have c6 : (p == q) = true := by simpa using c5
  case' inr.inr.inr.inr.inr => have c6 : (p == q) = false := by simpa using c5
  all_goals
    first | (have E := D0 (by omega)) | (have E := D1 (by omega))
    clear D0 D1
    go_enter Try.func25, Try.ntmps25
    go_wp2
  all_goals
    try simp only [Exit.inBlock, Exit.then]
    refine bodyPost_ret (results_ct rfl _ _ w.heap.size 60 _ (0, 0) _ rfl (blk_new _ _) Try.underlying60 rfl (by kernel_rfl)) rfl ?_
    refine ⟨?_, (Chg.refl _ _).alloc _⟩
    unfold Two
    rw [E.out]
    first
      | (have h1 : min p q = p := by omega
         have h2 : max p q = q := by omega
         rw [h1, h2]
         first | rfl | (simp; omega) | (simp [bne, c6]; done) | (simp [bne, c6]; omega))
      | (have h1 : min p q = q := by omega
         have h2 : max p q = p := by omega
         rw [h1, h2]
         first | rfl | (simp; omega) | (simp [bne, c6]; done) | (simp [bne, c6]; omega))

end Go.Proofs.Ytclmhodgfhkgcaa.Q

/- A region that draws its order, walked once, by a plan: a plan lists the operations with what each is: 0 it reads what S tells (taken first), 1 it yields in every world, 2 it alone may come up (S is shown behind it), 3 it alone may come up, and all that reads stands ahead of it. -/
namespace Go.Proofs.Ytclmhodgfhkgcaa.Q
open Go.RowKit Go.Proofs.YtclmhodgfhkgcaaW.PrintWords Go.Proofs.YtclmhodgfhkgcaaW.PrintLast Go.Proofs.YtclmhodgfhkgcaaW.PrintMore
set_option linter.unusedVariables false
set_option linter.unusedSimpArgs false

section
variable {P : Program} {ops : Array Oper} {Q : Exit → Act → World → Prop} {S : World → Prop}
def RP (P : Program) (ops : Array Oper) (Q : Exit → Act → World → Prop) (S : World → Prop) : List (Nat × Nat × Nat) → Act → World → Prop
  | [], a, w => Q .normal a w
  | (i, 0, d) :: r, a, w => ∃ o v, ops[i]? = some o ∧ o.dst = some d ∧ S w ∧ YieldsIf P ops S o v a ∧ RP P ops Q S r (a.put (some d) v) w
  | (i, 1, d) :: r, a, w => ∃ o v, ops[i]? = some o ∧ o.dst = some d ∧ Yields P ops o v a ∧ RP P ops Q S r (a.put (some d) v) w
  | (i, 2, d) :: r, a, w => ∃ o, ops[i]? = some o ∧ o.dst = some d ∧ ∀ K : Act → World → Prop, Shut (∀ a' w', S w' → (S w' → RP P ops Q S r a' w') → K a' w') → if Region.wanted o (yielded ops a.tmps) = true then Oper.wp P o a w K Q else K (a.put (some d) undef) w
  | (i, 3, d) :: r, a, w => ∃ o, ops[i]? = some o ∧ o.dst = none ∧ ∀ K : Act → World → Prop, Shut (∀ a' w', RP P ops Q S r a' w' → K a' w') → if Region.wanted o (yielded ops a.tmps) = true then Oper.wp P o a w K Q else K (a.put (none) undef) w
  | (i, 4, d) :: r, a, w => ∃ o, ops[i]? = some o ∧ o.dst = none ∧ ∀ K : Act → World → Prop, Shut (∀ a' w', S w' → (S w' → RP P ops Q S r a' w') → K a' w') → if Region.wanted o (yielded ops a.tmps) = true then Oper.wp P o a w K Q else K (a.put (none) undef) w
  | (i, _ + 5, d) :: r, a, w => ∃ o, ops[i]? = some o ∧ o.dst = some d ∧ ∀ K : Act → World → Prop, Shut (∀ a' w', RP P ops Q S r a' w' → K a' w') → if Region.wanted o (yielded ops a.tmps) = true then Oper.wp P o a w K Q else K (a.put (some d) undef) w
def planOk (ops : Array Oper) (ds : List Nat) : List (Nat × Nat × Nat) → Array Bool → Bool
  | [], l => Region.ready .any ops l == []
  | (i, 0, _) :: r, l => takeB .any ops ds l (l.setIfInBounds i true) i && planOk ops ds r (l.setIfInBounds i true)
  | (i, 1, _) :: r, l => anyB .any ops l (l.setIfInBounds i true) i && planOk ops ds r (l.setIfInBounds i true)
  | (i, 2, _) :: r, l => (readyB .any ops l (l.setIfInBounds i true) i && !ds.contains i) && planOk ops ds r (l.setIfInBounds i true)
  | (i, 3, _) :: r, l => (readyB .any ops l (l.setIfInBounds i true) i && ds.contains i) && planOk ops ds r (l.setIfInBounds i true)
  | (i, 4, _) :: r, l => (readyB .any ops l (l.setIfInBounds i true) i && !ds.contains i) && planOk ops ds r (l.setIfInBounds i true)
  | (i, _ + 5, _) :: r, l => (readyB .any ops l (l.setIfInBounds i true) i && ds.contains i) && planOk ops ds r (l.setIfInBounds i true)
theorem RP.sound {ds : List Nat} (hQ : ∀ c t v a w, Q (.panic c) (Act.put a t v) w → Q (.panic c) a w) : ∀ (p : List (Nat × Nat × Nat)) (l : Array Bool) (a : Act) (w : World), planOk ops ds p l = true → RP P ops Q S p a w → wpAnyLast P .any ops Q S ds p.length l a w
  | [], l, a, w, hp, h => done_ hp h
  | (i, 0, d) :: r, l, a, w, hp, h => by
    obtain ⟨o, v, ho, hd, hS, hy, h⟩ := h
    simp only [planOk, Bool.and_eq_true] at hp
    exact take_ _ ho hd hp.1 (fun c a w => hQ c _ _ a w) hy hS rfl (RP.sound hQ r _ _ _ hp.2 h)
  | (i, 1, d) :: r, l, a, w, hp, h => by
    obtain ⟨o, v, ho, hd, hy, h⟩ := h
    simp only [planOk, Bool.and_eq_true] at hp
    exact pure_ _ ho hd hp.1 (fun c a w => hQ c _ _ a w) hy rfl (RP.sound hQ r _ _ _ hp.2 h)
  | (i, 2, d) :: r, l, a, w, hp, h => by
    obtain ⟨o, ho, hd, h⟩ := h
    simp only [planOk, Bool.and_eq_true, Bool.not_eq_true'] at hp
    exact one_ _ ho hd hp.1.1 (by have := hp.1.2; simpa using this) (fun K hK => h K (fun a' w' hS' hr => hK a' w' hS' (fun hS2 => RP.sound hQ r _ _ _ hp.2 (hr hS2))))
  | (i, 3, d) :: r, l, a, w, hp, h => by
    obtain ⟨o, ho, hd, h⟩ := h
    simp only [planOk, Bool.and_eq_true] at hp
    exact last_ _ ho hd hp.1.1 (by have := hp.1.2; simpa using this) (fun K hK => h K (fun a' w' hr => hK a' w' (RP.sound hQ r _ _ _ hp.2 hr)))
  | (i, 4, d) :: r, l, a, w, hp, h => by
    obtain ⟨o, ho, hd, h⟩ := h
    simp only [planOk, Bool.and_eq_true, Bool.not_eq_true'] at hp
    exact one_ _ ho hd hp.1.1 (by have := hp.1.2; simpa using this) (fun K hK => h K (fun a' w' hS' hr => hK a' w' hS' (fun hS2 => RP.sound hQ r _ _ _ hp.2 (hr hS2))))
  | (i, _ + 5, d) :: r, l, a, w, hp, h => by
    obtain ⟨o, ho, hd, h⟩ := h
    simp only [planOk, Bool.and_eq_true] at hp
    exact last_ _ ho hd hp.1.1 (by have := hp.1.2; simpa using this) (fun K hK => h K (fun a' w' hr => hK a' w' (RP.sound hQ r _ _ _ hp.2 hr)))
/-- The region, by a plan. -/
theorem wp_plan {id : Nat} {a : Act} {w : World} (p : List (Nat × Nat × Nat)) (ds : List Nat) (S : World → Prop) (hm : P.follows .mixedOrders = true) (hn : ops.size = p.length) (hp : planOk ops ds p (Array.replicate p.length false) = true)
    (hQ : ∀ c t v a w, Q (.panic c) (Act.put a t v) w → Q (.panic c) a w) (hS : S (w.drewN 1)) (h : S (w.drewN 1) → RP P ops Q S p a (w.drewN 1)) : (Code.region id ops true).wp P Q a w :=
  start_ _ hm hn rfl hS (fun hs => RP.sound hQ p _ _ _ hp (h hs))
theorem RP.take {i d : Nat} {r : List (Nat × Nat × Nat)} {a : Act} {w : World} {o : Oper} {v : Value} (ho : ops[i]? = some o) (hd : o.dst = some d) (hS : S w) (hy : YieldsIf P ops S o v a) {a' : Act} (ha : a.put (some d) v = a') (h : RP P ops Q S r a' w) : RP P ops Q S ((i, 0, d) :: r) a w := by
  subst ha
  exact ⟨o, v, ho, hd, hS, hy, h⟩
theorem RP.pure {i d : Nat} {r : List (Nat × Nat × Nat)} {a : Act} {w : World} {o : Oper} {v : Value} (ho : ops[i]? = some o) (hd : o.dst = some d) (hy : Yields P ops o v a) {a' : Act} (ha : a.put (some d) v = a') (h : RP P ops Q S r a' w) : RP P ops Q S ((i, 1, d) :: r) a w := by
  subst ha
  exact ⟨o, v, ho, hd, hy, h⟩
theorem RP.one {i d : Nat} {r : List (Nat × Nat × Nat)} {a : Act} {w : World} {o : Oper} (ho : ops[i]? = some o) (hd : o.dst = some d) (h : ∀ K : Act → World → Prop, Shut (∀ a' w', S w' → (S w' → RP P ops Q S r a' w') → K a' w') → if Region.wanted o (yielded ops a.tmps) = true then Oper.wp P o a w K Q else K (a.put (some d) undef) w) : RP P ops Q S ((i, 2, d) :: r) a w := ⟨o, ho, hd, h⟩
theorem RP.last {i d : Nat} {r : List (Nat × Nat × Nat)} {a : Act} {w : World} {o : Oper} (ho : ops[i]? = some o) (hd : o.dst = none) (h : ∀ K : Act → World → Prop, Shut (∀ a' w', RP P ops Q S r a' w' → K a' w') → if Region.wanted o (yielded ops a.tmps) = true then Oper.wp P o a w K Q else K (a.put (none) undef) w) : RP P ops Q S ((i, 3, d) :: r) a w := ⟨o, ho, hd, h⟩
theorem RP.one0 {i d : Nat} {r : List (Nat × Nat × Nat)} {a : Act} {w : World} {o : Oper} (ho : ops[i]? = some o) (hd : o.dst = none) (h : ∀ K : Act → World → Prop, Shut (∀ a' w', S w' → (S w' → RP P ops Q S r a' w') → K a' w') → if Region.wanted o (yielded ops a.tmps) = true then Oper.wp P o a w K Q else K (a.put (none) undef) w) : RP P ops Q S ((i, 4, d) :: r) a w := ⟨o, ho, hd, h⟩
theorem RP.last1 {i d : Nat} {r : List (Nat × Nat × Nat)} {a : Act} {w : World} {o : Oper} (ho : ops[i]? = some o) (hd : o.dst = some d) (h : ∀ K : Act → World → Prop, Shut (∀ a' w', RP P ops Q S r a' w' → K a' w') → if Region.wanted o (yielded ops a.tmps) = true then Oper.wp P o a w K Q else K (a.put (some d) undef) w) : RP P ops Q S ((i, 5, d) :: r) a w := ⟨o, ho, hd, h⟩
theorem RP.nil {a : Act} {w : World} (h : Q .normal a w) : RP P ops Q S [] a w := h
theorem RP.norm {p : List (Nat × Nat × Nat)} {a a' : Act} {w : World} (ha : a = a') (h : RP P ops Q S p a' w) : RP P ops Q S p a w := by
  subst ha
  exact h
end

end Go.Proofs.Ytclmhodgfhkgcaa.Q

/- The contracts of the net's small functions: at, Up. -/
namespace Go.Proofs.Ytclmhodgfhkgcaa.Q
open Go.RowKit Go.Proofs.YtclmhodgfhkgcaaW.PrintWords Go.Proofs.YtclmhodgfhkgcaaW.PrintLast Go.Proofs.YtclmhodgfhkgcaaW.PrintMore
set_option linter.unusedVariables false
set_option linter.unusedSimpArgs false

abbrev Msg := S30
abbrev zM : Msg := z30
abbrev rdM (xs : List Msg) (i : Int) : Msg := rd_T30 xs i
/-- A message as a value. -/
abbrev MsgV (m : Msg) : Value := .agg #[.int .i64 m.f0, .int .i64 m.f1, .string m.f2]
/-- Is there a message at a place? -/
def Is (X : Nt) (i : Int) : Prop := 0 ≤ i ∧ i < (X.l.length : Int)
instance (X : Nt) (i : Int) : Decidable (Is X i) := by unfold Is; infer_instance
theorem RowM.cell {w : World} {ok : Nat → Prop} {A : Option Addr} {n c : Nat} {xs : List Msg} (h : RowM w ok (.slice A n c) xs) (i : Int) (h0 : 0 ≤ i) (h1 : i < n) :
    ∃ ad, A = some ad ∧ w.cell? (ad.add (i.toNat * 3)) = some (.int .i64 (rdM xs i).f0) ∧ w.cell? ⟨(ad.add (i.toNat * 3)).block, (ad.add (i.toNat * 3)).off + 1, none⟩ = some (.int .i64 (rdM xs i).f1) ∧ w.cell? ⟨(ad.add (i.toNat * 3)).block, (ad.add (i.toNat * 3)).off + 2, none⟩ = some (.string (rdM xs i).f2) := by
  obtain ⟨hx, hle, hF⟩ := Kd.V_at h
  subst hx
  exact at_T30 (Kd.F_now hF) i h0 h1
set_option maxHeartbeats 1000000 in
theorem at_no (ok : Nat → Prop) (b c n : Nat) (X : Nt) (i : Int) (w : World) (hT : NetAt ok w b c n X) (hi : ¬ Is X i) :
    Calls Try.prog 26 #[.pointer (some ⟨b, 0, none⟩), .int .i64 i] w fun e w' => e = .returned (.tuple #[MsgV zM, .int .i64 3]) ∧ Chg (fun _ => False) w w' := by
  obtain ⟨-, ⟨A, k, h1, -, -⟩, -, -, -⟩ := hT.open
  unfold Is at hi
  have hlt := hT.lt
  clear hT
  rcases (by omega : i < 0 ∨ (0 ≤ i ∧ (X.l.length : Int) ≤ i)) with c1 | ⟨c1, c2⟩
  all_goals
    go_enter Try.func26, Try.ntmps26
    go_wp2
    try simp only [Exit.inBlock, Exit.then]
    refine bodyPost_ret (results_ct rfl _ _ w.heap.size 30 _ (0, 0) _ rfl (blk_new _ _) Try.underlying30 rfl (by kernel_rfl)) rfl ?_
    exact ⟨rfl, (Chg.refl _ _).alloc _⟩
set_option maxHeartbeats 1000000 in
theorem at_yes (ok : Nat → Prop) (b c n : Nat) (X : Nt) (i : Int) (w : World) (hT : NetAt ok w b c n X) (hi : Is X i) :
    Calls Try.prog 26 #[.pointer (some ⟨b, 0, none⟩), .int .i64 i] w fun e w' => e = .returned (.tuple #[MsgV (rdM X.l i), .int .i64 0]) ∧ Chg (fun _ => False) w w' := by
  obtain ⟨-, ⟨A, k, h1, -, hR⟩, -, -, -⟩ := hT.open
  unfold Is at hi
  obtain ⟨hi0, hi1⟩ := hi
  have hlt := hT.lt
  obtain ⟨j, rfl⟩ : ∃ j : Nat, i = j := ⟨i.toNat, by omega⟩
  obtain ⟨ad, rfl, -⟩ := hR.cell (j : Int) hi0 hi1
  have hr := fun o => RowM.cell (w := w.alloc o) (Kd.V_alloc hR o) (j : Int) hi0 hi1
  have r0 : ∀ o, (w.alloc o).cell? (ad.add (j * 3)) = some (.int .i64 (rdM X.l (j : Int)).f0) := fun o => by
    obtain ⟨_, e, h, -⟩ := hr o
    cases e
    exact h
  have r1 : ∀ o, (w.alloc o).cell? ⟨(ad.add (j * 3)).block, (ad.add (j * 3)).off + 1, none⟩ = some (.int .i64 (rdM X.l (j : Int)).f1) := fun o => by
    obtain ⟨_, e, -, h, -⟩ := hr o
    cases e
    exact h
  have r2 : ∀ o, (w.alloc o).cell? ⟨(ad.add (j * 3)).block, (ad.add (j * 3)).off + 2, none⟩ = some (.string (rdM X.l (j : Int)).f2) := fun o => by
    obtain ⟨_, e, -, -, h⟩ := hr o
    cases e
    exact h
  clear hT hR hr
  generalize rdM X.l (j : Int) = m at *
  go_enter Try.func26, Try.ntmps26
  go_wp2
  try simp only [Exit.inBlock, Exit.then]
  refine bodyPost_ret (results_ct rfl _ _ w.heap.size 30 _ (0, 0) _ rfl (blk_new _ _) Try.underlying30 rfl (by kernel_rfl)) rfl ?_
  exact ⟨rfl, (Chg.refl _ _).alloc _⟩

end Go.Proofs.Ytclmhodgfhkgcaa.Q
