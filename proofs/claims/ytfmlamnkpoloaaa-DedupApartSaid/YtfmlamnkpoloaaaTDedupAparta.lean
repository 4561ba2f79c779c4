/- Texts of this session laid together (merge.py): YtfmlamnkpoloaaaQ0, YtfmlamnkpoloaaaHBase, YtfmlamnkpoloaaaHBox, YtfmlamnkpoloaaaDBase, YtfmlamnkpoloaaaDFind, YtfmlamnkpoloaaaDGet, YtfmlamnkpoloaaaRP, YtfmlamnkpoloaaaDPut. -/
import Derived.Test.YtfmlamnkpoloaaaProg
import Derived.Below
import Derived.Deep.Draws
import Derived.Deep.AppendLies
import Derived.Maps.AppendAt
import Derived.OwnWalk
import Derived.Laws.BytesArg
import Derived.Laws.MakeOwn
import Derived.Laws.OwnMore
import Derived.Deep.OwnRows
import Derived.Tactics
import Derived.Lib.ConvBytes
import Derived.Laws.Slices
import Derived.WalkKit
import Derived.KernelRfl
import Derived.RowKit3
import Derived.Deep.LoopGhost
import Derived.Deep.QuietTactic
import Derived.BigQuiet
import Derived.WideLaws
import Derived.Deep.DeepCutAuto
import Derived.Deep.CutBlock
import Derived.Deep.RegionHeld3
import Derived.Laws.Rows
import Derived.Lib.AppendStr
import Derived.ArgAppend
import Derived.Laws.IdiomCopy
import Derived.OrdersHeld
import Derived.Laws.BitsLemmas
import Derived.RowKit
import Derived.WalkMore
import Derived.Test.YtfmlamnkpoloaaaWWords
import Derived.Test.YtfmlamnkpoloaaaWLast
import Derived.Test.YtfmlamnkpoloaaaWTab
import Derived.Test.YtfmlamnkpoloaaaWFour
import Derived.Test.YtfmlamnkpoloaaaWQPut
import Derived.Test.YtfmlamnkpoloaaaWApart
import Derived.Test.YtfmlamnkpoloaaaWArr
import Derived.Test.YtfmlamnkpoloaaaWZeros
import Derived.Test.YtfmlamnkpoloaaaWFoot
import Derived.Test.YtfmlamnkpoloaaaWKept
import Derived.Test.YtfmlamnkpoloaaaWShare
import Derived.Test.YtfmlamnkpoloaaaWN
import Derived.Test.YtfmlamnkpoloaaaWFootNe
import Derived.Test.YtfmlamnkpoloaaaWAt
import Derived.Test.YtfmlamnkpoloaaaWEqStruct
import Derived.Test.YtfmlamnkpoloaaaWRepsOne
import Derived.Test.YtfmlamnkpoloaaaWInv
import Derived.Test.YtfmlamnkpoloaaaWInvWords
import Derived.Test.YtfmlamnkpoloaaaWGuard
import Derived.Test.YtfmlamnkpoloaaaWNEv
import Derived.Test.YtfmlamnkpoloaaaWMore
import Derived.Outline
import Derived.IntWalk
import Derived.Deep.RegionLawGrows
-- By px.py, a program of this session that drives the kit's printer: laid out of the translation; Lean checks it.
namespace Go.Proofs.Ytfmlamnkpoloaaa.Q
open Go.RowKit Go.Proofs.YtfmlamnkpoloaaaW.PrintWords Go.Proofs.YtfmlamnkpoloaaaW.PrintLast Go.Proofs.YtfmlamnkpoloaaaW.PrintMore
attribute [local go_sem] max2_int min2_int max_two min_two max_three min_three max_four min_four   -- for this text's walks alone
set_option linter.unusedVariables false
set_option linter.unusedSimpArgs false




/-- Strings in order: '>' is '<' the other way round. -/
theorem bytesLess_swap : ∀ (x y : List UInt8), (!(Op.bytesLess x y || x == y)) = Op.bytesLess y x
  | [], [] => rfl
  | [], _ :: _ => rfl
  | _ :: _, [] => rfl
  | a :: x, b :: y => by
    have ih := bytesLess_swap x y
    simp only [Op.bytesLess]
    by_cases h : a = b
    · subst h
      have h1 : decide (a < a) = false := decide_eq_false (by simp)
      have h2 : (a :: x == a :: y) = (x == y) := by simp
      have h3 : (a == a) = true := by simp
      rw [h1, h2, h3, Bool.false_or, Bool.true_and, Bool.false_or, Bool.true_and]
      exact ih
    · have h2 : (a :: x == b :: y) = false := by simp [h]
      have h3 : (a == b) = false := by simp [h]
      have h4 : (b == a) = false := by simp [Ne.symm h]
      rw [h2, h3, h4, Bool.false_and, Bool.false_and, Bool.or_false, Bool.or_false, Bool.or_false]
      have hab : a.toNat ≠ b.toNat := fun h' => h (UInt8.toNat_inj.mp h')
      by_cases hl : a < b
      · have h5 : ¬ b < a := by rw [UInt8.lt_iff_toNat_lt] at hl ⊢; omega
        rw [decide_eq_true hl, decide_eq_false h5]
        rfl
      · have h5 : b < a := by rw [UInt8.lt_iff_toNat_lt] at hl ⊢; omega
        rw [decide_eq_false hl, decide_eq_true h5]
        rfl
@[go_sem high] theorem gtr_swap (t : TypeId) (a b : ByteArray) : binOp .gtr t (.string a) (.string b) = pure (.bool (Op.bytesLess b.toList a.toList)) := by
  rw [← bytesLess_swap]
  simp [binOp, Op.stringOp]
@[go_sem high] theorem leq_swap (t : TypeId) (a b : ByteArray) : binOp .leq t (.string a) (.string b) = pure (.bool !(Op.bytesLess b.toList a.toList)) := by
  rw [← bytesLess_swap, Bool.not_not]
  simp [binOp, Op.stringOp]
/-- A call through a value that is a function which captures nothing: as goesL_. -/
theorem goesV_ {P : Program} {ops : Array Oper} {Q : Exit → Act → World → Prop} {rest : List Oper} {oi : Oper} {a : Act} {w : World} (N : Option Tmp) (hd : oi.dst = N) (hg : oi.guard = none) {x : Operand} {f : FuncId} {fn : Func} {xs : Array Operand} {ts : Array TypeId} (hf : P.funcs[f]? = some fn) (hname : (fn.name == "runtime.NumGoroutine") = false) (hb : fn.body.isSome = true) (args : Array Value)
    (hop : oi.op = .call { callee := .value x, args := xs, argTypes := ts }) (hargs : xs.map a.eval = args)
    (h : Calls P f args w fun e w' => ∃ v, e = .returned v ∧ wpList P ops Q rest (a.put N v) w') (hx : a.eval x = .func (.func f) #[] #[] := by rfl) : wpList P ops Q (oi :: rest) a w := by
  refine wpList_plain hg fun K hK => ?_
  have he := enters_ hf hname hb args w
  have hrun : (execOp a.eval oi).run P w = .ok (.enter f args) w := by
    unfold execOp
    simp [hop, resolve, Deferred.ofValue, invoke, hx, hargs, he]
  unfold Oper.wp
  rw [hrun, Oper.upon_enter]
  refine h.mono fun e w'' hh => ?_
  obtain ⟨v, rfl, hk⟩ := hh
  subst hd
  exact hK _ _ hk
/-- Behind an append of a string's bytes: the row's block is the old one's, or a new one. -/
theorem str_hat {P : Program} (W : World) (base : Nat) (t u ty e : TypeId) (i : TypeInfo) (ht : P.underlying t = some (.slice e)) (hu : P.underlying u = some .string) (hi : P.info? e = some i) (hz : i.zero = some (.int .u8 0)) (hsize : i.size = 1) (hby : i.bytes = 1)
    (v : Value) (n : Nat) (xs : List Value) (hown : W.ownsRow base e 1 v n xs) (s : ByteArray) (hbytes : n + s.size ≤ 140737488355328) (v1 : Value) (w1 : World)
    (hr : (Builtin.append_ #[t, u] ty #[v, .string s]).run P W = .ok v1 w1) (hnil : v1 = .slice none 0 0 ↔ v = .slice none 0 0 ∧ s.size = 0) : v1.ownBlock = v.ownBlock ∨ ∃ b, v1.ownBlock = some b ∧ W.heap.size ≤ b := by
  have hxl : xs.length = n := by simpa using hown.1
  rcases hown.2 with ⟨rfl, rfl⟩ | ⟨g, cap, cur, rfl, hbg, hg, hnc, hcm, hcs, htake⟩
  · by_cases hm : s.size = 0
    · rw [hnil.mpr ⟨rfl, hm⟩]
      exact .inl rfl
    · have hr2 := run_append_nil_string (P := P) W t u ty e i (.int .u8 0) ht hu hi hz s (by omega) (by omega) (by rw [hby]; omega)
      rw [hr2] at hr
      injection hr with hv _
      rw [← hv]
      exact .inr ⟨_, rfl, Nat.le_refl _⟩
  · by_cases hroom : n + s.size ≤ cap
    · have hcs' : cur.size = cap := by simpa using hcs
      have hr2 := Lib.run_append_room_string (P := P) W t u ty e i ht hu hi hsize g n cap cur hg s hroom (by omega)
      rw [hr2] at hr
      injection hr with hv _
      rw [← hv]
      exact .inl rfl
    · have holds : ∀ j u, xs[j]? = some u → W.cell? ((⟨g, 0, none⟩ : Addr).add j) = some u := hown.cells (g := g) rfl
      have hr2 := Lib.run_append_grow_string (P := P) W t u ty e i (.int .u8 0) ht hu hi hz ⟨g, 0, none⟩ n cap xs (by rw [hsize]; simpa using hxl) holds s (by omega) (by omega) (by rw [hby]; exact growslice_fits (by omega) (by omega))
      rw [hr2] at hr
      injection hr with hv _
      rw [← hv]
      exact .inr ⟨_, rfl, Nat.le_refl _⟩
theorem append_str_hat {P : Program} {ops : Array Oper} {rest : List Oper} {o : Oper} {a : Act} {Q : Exit → Act → World → Prop} {w0 W : World} (base : Nat) (hgd : o.guard = none) (s x : Operand) (t u e : TypeId)
    (ho : o.op = .call { callee := .builtin .append, args := #[s, x], argTypes := #[t, u] })
    (ht : P.underlying t = some (.slice e)) (hu : P.underlying u = some .string) (hinfo : (P.info? e).map (fun i => (i.zero, i.size, i.bytes)) = some (some (.int .u8 0), 1, 1))
    (v : Value) (xs : List Int) (y : ByteArray) (hs : a.eval s = v) (hx : a.eval x = .string y)
    (HO : W.ownsRow base e 1 v xs.length (nums .u8 xs)) (HB : Below base w0 W) (hbase : base ≤ W.heap.size) (hl : xs.length + y.size ≤ 140737488355328)
    (h : ∀ v1 w1, w1.ownsRow base e 1 v1 (xs ++ bytesOf y).length (nums .u8 (xs ++ bytesOf y)) → Below base w0 w1 → W.grownBy w1 v.ownBlock → (v1.ownBlock = v.ownBlock ∨ ∃ b, v1.ownBlock = some b ∧ W.heap.size ≤ b) → wpList P ops Q rest (a.put o.dst v1) w1) :
    wpList P ops Q (o :: rest) a W := by
  obtain ⟨i0, hi, hzz⟩ := Option.map_eq_some_iff.1 hinfo
  simp only [Prod.mk.injEq] at hzz
  obtain ⟨hz0, hz1, hz2⟩ := hzz
  refine wpList_plain hgd fun K hK => ?_
  obtain ⟨v1, w1, hr, hown, hg, hnil⟩ := Lib.run_append_own_string (P := P) W base t u o.type e i0 ht hu hi hz0 hz1 hz2 v xs.length (nums .u8 xs) HO y (by simp only [maxLen]; omega) hl hbase
  have hat := str_hat W base t u o.type e i0 ht hu hi hz0 hz1 hz2 v xs.length (nums .u8 xs) HO y hl v1 w1 hr hnil
  have hl2 : (xs ++ bytesOf y).length = xs.length + y.size := by rw [List.length_append, bytesOf_length]
  have hc : nums .u8 (xs ++ bytesOf y) = nums .u8 xs ++ Lib.strCells y := by
    rw [nums_append]
    congr 1
    simp [nums, bytesOf, Lib.strCells]
  unfold Oper.wp execOp
  simp only [ho, resolve, invoke, builtin, Sem.run_bind, Sem.run_pure, Result.andThen_ok, List.map_toArray, List.map_cons, List.map_nil, hs, hx, hr]
  exact hK _ _ (h v1 w1 (by rw [hl2, hc]; exact hown) (HB.grown hg hbase (own_base HO)) hg hat)

def errW : Option Int → Value
  | none => .nilIface
  | some c => .iface 0 (.int .i64 c)
theorem errW_none : errW none = .nilIface := rfl
theorem errW_some (c : Int) : errW (some c) = .iface 0 (.int .i64 c) := rfl

theorem info3 : (Try.prog.info? 3).map (fun i => (i.zero, i.size, i.bytes)) = some (some (.int .i64 0), 1, 8) := by kernel_rfl
theorem info5 : (Try.prog.info? 5).map (fun i => (i.zero, i.size, i.bytes)) = some (some (.int .u8 0), 1, 1) := by kernel_rfl
theorem info58 : (Try.prog.info? 58).map (fun i => (i.zero, i.size, i.bytes)) = some (some (.agg #[(.int .i64 0), (.int .i64 0)]), 2, 16) := by kernel_rfl
theorem info67 : (Try.prog.info? 67).map (fun i => (i.zero, i.size, i.bytes)) = some (some (.agg #[(.slice none 0 0), (.int .i64 0), (.int .i64 0)]), 3, 40) := by kernel_rfl
-- the values' own types
/-! #### struct type 58 -/
structure S58 where
  f0 : Int
  f1 : Int
def z58 : S58 := ⟨(0 : Int), (0 : Int)⟩
def k58 : Kd S58 := Kd.iso (Kd.pair (Kd.int .i64) (Kd.int .i64)) (fun x : S58 => (x.f0, x.f1))
theorem k58_open {w : World} {x : S58} {cs : List Value} (h : k58.K w x cs) : cs = [.int .i64 x.f0, .int .i64 x.f1] := by
  obtain ⟨_, _, rfl, rfl, rfl⟩ := h
  exact rfl
theorem k58_openM {w : World} {base : Nat} {ok : Nat → Prop} {x : S58} {cs : List Value} (h : k58.M w base ok x cs) : cs = [.int .i64 x.f0, .int .i64 x.f1] := by
  obtain ⟨_, _, rfl, rfl, rfl⟩ := h
  exact rfl
theorem k58_mk (w : World) (x : S58)  : k58.K w x [.int .i64 x.f0, .int .i64 x.f1] := ⟨[.int .i64 x.f0], [.int .i64 x.f1], rfl, rfl, rfl⟩
theorem k58_mkM (w : World) (base : Nat) (ok : Nat → Prop) (x : S58)  : k58.M w base ok x [.int .i64 x.f0, .int .i64 x.f1] := ⟨[.int .i64 x.f0], [.int .i64 x.f1], rfl, rfl, rfl⟩
def rd_T58 (xs : List S58) (i : Int) : S58 := xs.getD i.toNat z58
theorem at_T58 {w : World} {A : Option Addr} {n : Nat} {xs : List S58} (h : Kd.C k58 w A n xs) (i : Int) (h0 : 0 ≤ i) (h1 : i < n) : ∃ ad , A = some ad ∧ w.cell? (ad.add (i.toNat * 2)) = some (.int .i64 (rd_T58 xs i).f0) ∧ w.cell? ⟨(ad.add (i.toNat * 2)).block, (ad.add (i.toNat * 2)).off + 1, none⟩ = some (.int .i64 (rd_T58 xs i).f1) := by
  obtain ⟨ad, c, e, _, hK, hc0⟩ := Kd.C_get h z58 i h0 h1
  have hc : ∀ j u, c[j]? = some u → w.cell? (ad.add (i.toNat * 2 + j)) = some u := hc0
  obtain rfl := k58_open hK
  exact ⟨ad, e, hc 0 _ rfl, by rw [← add_field _ _ 1 (by omega)]; exact hc 1 _ rfl⟩

def rd_L2 (xs : List (List Int)) (i : Int) : (List Int) := xs.getD i.toNat ([] : List Int)
theorem at_L2 {w : World} {A : Option Addr} {n : Nat} {xs : List (List Int)} (h : Kd.C (Kd.slice 3 (Kd.int .i64)) w A n xs) (i : Int) (h0 : 0 ≤ i) (h1 : i < n) : ∃ ad A0 c0, A = some ad ∧ w.cell? (ad.add i.toNat) = some (.slice A0 (rd_L2 xs i).length c0) ∧ (rd_L2 xs i).length ≤ c0 ∧ (Kd.int .i64).C w A0 (rd_L2 xs i).length (rd_L2 xs i) := by
  obtain ⟨ad, c, e, _, hK, hc0⟩ := Kd.C_get h ([] : List Int) i h0 h1
  have hc : ∀ j u, c[j]? = some u → w.cell? (ad.add (i.toNat * 1 + j)) = some u := hc0
  obtain ⟨A0, c0, rfl, l0, g0⟩ := hK
  exact ⟨ad, A0, c0, e, by have hq := hc 0 _ rfl; rwa [Nat.mul_one, Nat.add_zero] at hq, l0, g0⟩

/-! #### struct type 67 -/
structure S67 where
  f0 : (List Int)
  f1 : Int
  f2 : Int
def z67 : S67 := ⟨([] : List Int), (0 : Int), (0 : Int)⟩
def k67 : Kd S67 := Kd.iso (Kd.pair (Kd.slice 3 (Kd.int .i64)) (Kd.pair (Kd.int .i64) (Kd.int .i64))) (fun x : S67 => (x.f0, x.f1, x.f2))
theorem k67_open {w : World} {x : S67} {cs : List Value} (h : k67.K w x cs) : ∃ A0 c0, cs = [.slice A0 x.f0.length c0, .int .i64 x.f1, .int .i64 x.f2] ∧ x.f0.length ≤ c0 ∧ (Kd.int .i64).C w A0 x.f0.length x.f0 := by
  obtain ⟨_, _, rfl, ⟨A0, c0, rfl, l0, g0⟩, ⟨_, _, rfl, rfl, rfl⟩⟩ := h
  exact ⟨A0, c0, rfl, l0, g0⟩
theorem k67_openM {w : World} {base : Nat} {ok : Nat → Prop} {x : S67} {cs : List Value} (h : k67.M w base ok x cs) : ∃ v0, cs = [v0, .int .i64 x.f1, .int .i64 x.f2] ∧ (Kd.int .i64).R 3 w base ok v0 x.f0 := by
  obtain ⟨_, _, rfl, ⟨v0, rfl, g0⟩, ⟨_, _, rfl, rfl, rfl⟩⟩ := h
  exact ⟨v0, rfl, g0⟩
theorem k67_mk (w : World) (x : S67) {A0 : Option Addr} {c0 : Nat} (l0 : x.f0.length ≤ c0) (g0 : (Kd.int .i64).C w A0 x.f0.length x.f0) : k67.K w x [.slice A0 x.f0.length c0, .int .i64 x.f1, .int .i64 x.f2] := ⟨[.slice A0 x.f0.length c0], [.int .i64 x.f1, .int .i64 x.f2], rfl, ⟨A0, c0, rfl, l0, g0⟩, ⟨[.int .i64 x.f1], [.int .i64 x.f2], rfl, rfl, rfl⟩⟩
theorem k67_mkM (w : World) (base : Nat) (ok : Nat → Prop) (x : S67) {v0 : Value} (g0 : (Kd.int .i64).R 3 w base ok v0 x.f0) : k67.M w base ok x [v0, .int .i64 x.f1, .int .i64 x.f2] := ⟨[v0], [.int .i64 x.f1, .int .i64 x.f2], rfl, ⟨v0, rfl, g0⟩, ⟨[.int .i64 x.f1], [.int .i64 x.f2], rfl, rfl, rfl⟩⟩
def rd_T67 (xs : List S67) (i : Int) : S67 := xs.getD i.toNat z67
theorem at_T67 {w : World} {A : Option Addr} {n : Nat} {xs : List S67} (h : Kd.C k67 w A n xs) (i : Int) (h0 : 0 ≤ i) (h1 : i < n) : ∃ ad A0 c0, A = some ad ∧ w.cell? (ad.add (i.toNat * 3)) = some (.slice A0 (rd_T67 xs i).f0.length c0) ∧ w.cell? ⟨(ad.add (i.toNat * 3)).block, (ad.add (i.toNat * 3)).off + 1, none⟩ = some (.int .i64 (rd_T67 xs i).f1) ∧ w.cell? ⟨(ad.add (i.toNat * 3)).block, (ad.add (i.toNat * 3)).off + 2, none⟩ = some (.int .i64 (rd_T67 xs i).f2) ∧ (rd_T67 xs i).f0.length ≤ c0 ∧ (Kd.int .i64).C w A0 (rd_T67 xs i).f0.length (rd_T67 xs i).f0 := by
  obtain ⟨ad, c, e, _, hK, hc0⟩ := Kd.C_get h z67 i h0 h1
  have hc : ∀ j u, c[j]? = some u → w.cell? (ad.add (i.toNat * 3 + j)) = some u := hc0
  obtain ⟨A0, c0, rfl, l0, g0⟩ := k67_open hK
  exact ⟨ad, A0, c0, e, hc 0 _ rfl, by rw [← add_field _ _ 1 (by omega)]; exact hc 1 _ rfl, by rw [← add_field _ _ 2 (by omega)]; exact hc 2 _ rfl, l0, g0⟩

end Go.Proofs.Ytfmlamnkpoloaaa.Q

/- Small words that all hand-written texts of this seat share. -/
namespace Go.Proofs.Ytfmlamnkpoloaaa.Q
open Go.RowKit Go.Proofs.YtfmlamnkpoloaaaW.PrintWords Go.Proofs.YtfmlamnkpoloaaaW.PrintLast Go.Proofs.YtfmlamnkpoloaaaW.PrintMore

theorem ret_int {k : IntKind} {a b : Int} (h : a = b) : Ending.returned (.int k a) = .returned (.int k b) := by rw [h]
theorem ret_str {a b : ByteArray} (h : a = b) : Ending.returned (.string a) = .returned (.string b) := by rw [h]
theorem ret_bool {a b : Bool} (h : a = b) : Ending.returned (.bool a) = .returned (.bool b) := by rw [h]
theorem ret_val {a b : Value} (h : a = b) : Ending.returned a = .returned b := by rw [h]
theorem ret_two {a b c d : Value} (h : a = b) (k : c = d) : Ending.returned (.tuple #[a, c]) = .returned (.tuple #[b, d]) := by rw [h, k]
theorem ret_three {a b c d e f : Value} (h : a = b) (k : c = d) (l : e = f) : Ending.returned (.tuple #[a, c, e]) = .returned (.tuple #[b, d, f]) := by rw [h, k, l]
theorem bits_u32 (op : BinOp) (x y : Int) : 0 ≤ Go.bits op .u32 x y ∧ Go.bits op .u32 x y < 4294967296 := by
  unfold Go.bits
  rw [IntKind.wrap_u32]
  omega
theorem bits_u8 (op : BinOp) (x y : Int) : 0 ≤ Go.bits op .u8 x y ∧ Go.bits op .u8 x y < 256 := by
  unfold Go.bits
  rw [IntKind.wrap_u8]
  omega
theorem below_row {B g : Nat} {w0 w : World} (hb : Below B w0 w) (hg : B ≤ g) (cs : Array Value) : Below B w0 (w.setRow g cs) :=
  ⟨hb.os, hb.tape, hb.output, by simpa using hb.size, fun i hi => (setRow_other w g i cs (by omega)).trans (hb.block i hi)⟩
theorem xor_u32 (a b : Nat) (ha : a < 4294967296) (hb : b < 4294967296) : Go.bits .xor .u32 (a : Int) (b : Int) = ((a ^^^ b : Nat) : Int) := by
  have h32 : a ^^^ b < 4294967296 := Nat.xor_lt_two_pow (n := 32) ha hb
  unfold Go.bits
  rw [IntKind.wrap_u32]
  simp only [BitVec.ofInt_natCast, BitVec.toNat_xor, BitVec.toNat_ofNat]
  have e1 : a % 2 ^ IntKind.u32.bits = a := Nat.mod_eq_of_lt ha
  have e2 : b % 2 ^ IntKind.u32.bits = b := Nat.mod_eq_of_lt hb
  rw [e1, e2]
  omega
theorem xor_u8 (a b : Nat) (ha : a < 256) (hb : b < 256) : Go.bits .xor .u8 (a : Int) (b : Int) = ((a ^^^ b : Nat) : Int) := by
  have h8 : a ^^^ b < 256 := Nat.xor_lt_two_pow (n := 8) ha hb
  unfold Go.bits
  rw [IntKind.wrap_u8]
  simp only [BitVec.ofInt_natCast, BitVec.toNat_xor, BitVec.toNat_ofNat]
  have e1 : a % 2 ^ IntKind.u8.bits = a := Nat.mod_eq_of_lt ha
  have e2 : b % 2 ^ IntKind.u8.bits = b := Nat.mod_eq_of_lt hb
  rw [e1, e2]
  omega
theorem and1_u32 (a : Nat) (ha : a < 4294967296) : Go.bits .and .u32 (a : Int) 1 = ((a % 2 : Nat) : Int) := by
  have h := bits_mask .u32 32 (by decide) (fun n h0 h1 => by rw [IntKind.wrap_u32]; omega) 1 (by decide) (a : Int) (by omega) (by omega)
  simpa using h

end Go.Proofs.Ytfmlamnkpoloaaa.Q

/- The cells of a block, all at once. -/
namespace Go.Proofs.Ytfmlamnkpoloaaa.Q
open Go.RowKit Go.Proofs.YtfmlamnkpoloaaaW.PrintWords Go.Proofs.YtfmlamnkpoloaaaW.PrintLast Go.Proofs.YtfmlamnkpoloaaaW.PrintMore

theorem box1 {w : World} {g t : Nat} {a0 : Value} (h : w.heap[g]? = some (.cells #[a0] t (0, 0))) : w.cell? ⟨g, 0, none⟩ = some a0 ∧ w.frozen? ⟨g, 0, none⟩ = false := ⟨(blk_cell h 0).trans rfl, blk_frozen h 0⟩
theorem box2 {w : World} {g t : Nat} {a0 a1 : Value} (h : w.heap[g]? = some (.cells #[a0, a1] t (0, 0))) : w.cell? ⟨g, 0, none⟩ = some a0 ∧ w.cell? ⟨g, 1, none⟩ = some a1 ∧ w.frozen? ⟨g, 0, none⟩ = false ∧ w.frozen? ⟨g, 1, none⟩ = false := ⟨(blk_cell h 0).trans rfl, (blk_cell h 1).trans rfl, blk_frozen h 0, blk_frozen h 1⟩
theorem box3 {w : World} {g t : Nat} {a0 a1 a2 : Value} (h : w.heap[g]? = some (.cells #[a0, a1, a2] t (0, 0))) : w.cell? ⟨g, 0, none⟩ = some a0 ∧ w.cell? ⟨g, 1, none⟩ = some a1 ∧ w.cell? ⟨g, 2, none⟩ = some a2 ∧ w.frozen? ⟨g, 0, none⟩ = false ∧ w.frozen? ⟨g, 1, none⟩ = false ∧ w.frozen? ⟨g, 2, none⟩ = false := ⟨(blk_cell h 0).trans rfl, (blk_cell h 1).trans rfl, (blk_cell h 2).trans rfl, blk_frozen h 0, blk_frozen h 1, blk_frozen h 2⟩
theorem box4 {w : World} {g t : Nat} {a0 a1 a2 a3 : Value} (h : w.heap[g]? = some (.cells #[a0, a1, a2, a3] t (0, 0))) : w.cell? ⟨g, 0, none⟩ = some a0 ∧ w.cell? ⟨g, 1, none⟩ = some a1 ∧ w.cell? ⟨g, 2, none⟩ = some a2 ∧ w.cell? ⟨g, 3, none⟩ = some a3 ∧ w.frozen? ⟨g, 0, none⟩ = false ∧ w.frozen? ⟨g, 1, none⟩ = false ∧ w.frozen? ⟨g, 2, none⟩ = false ∧ w.frozen? ⟨g, 3, none⟩ = false := ⟨(blk_cell h 0).trans rfl, (blk_cell h 1).trans rfl, (blk_cell h 2).trans rfl, (blk_cell h 3).trans rfl, blk_frozen h 0, blk_frozen h 1, blk_frozen h 2, blk_frozen h 3⟩
theorem box5 {w : World} {g t : Nat} {a0 a1 a2 a3 a4 : Value} (h : w.heap[g]? = some (.cells #[a0, a1, a2, a3, a4] t (0, 0))) : w.cell? ⟨g, 0, none⟩ = some a0 ∧ w.cell? ⟨g, 1, none⟩ = some a1 ∧ w.cell? ⟨g, 2, none⟩ = some a2 ∧ w.cell? ⟨g, 3, none⟩ = some a3 ∧ w.cell? ⟨g, 4, none⟩ = some a4 ∧ w.frozen? ⟨g, 0, none⟩ = false ∧ w.frozen? ⟨g, 1, none⟩ = false ∧ w.frozen? ⟨g, 2, none⟩ = false ∧ w.frozen? ⟨g, 3, none⟩ = false ∧ w.frozen? ⟨g, 4, none⟩ = false := ⟨(blk_cell h 0).trans rfl, (blk_cell h 1).trans rfl, (blk_cell h 2).trans rfl, (blk_cell h 3).trans rfl, (blk_cell h 4).trans rfl, blk_frozen h 0, blk_frozen h 1, blk_frozen h 2, blk_frozen h 3, blk_frozen h 4⟩
theorem box6 {w : World} {g t : Nat} {a0 a1 a2 a3 a4 a5 : Value} (h : w.heap[g]? = some (.cells #[a0, a1, a2, a3, a4, a5] t (0, 0))) : w.cell? ⟨g, 0, none⟩ = some a0 ∧ w.cell? ⟨g, 1, none⟩ = some a1 ∧ w.cell? ⟨g, 2, none⟩ = some a2 ∧ w.cell? ⟨g, 3, none⟩ = some a3 ∧ w.cell? ⟨g, 4, none⟩ = some a4 ∧ w.cell? ⟨g, 5, none⟩ = some a5 ∧ w.frozen? ⟨g, 0, none⟩ = false ∧ w.frozen? ⟨g, 1, none⟩ = false ∧ w.frozen? ⟨g, 2, none⟩ = false ∧ w.frozen? ⟨g, 3, none⟩ = false ∧ w.frozen? ⟨g, 4, none⟩ = false ∧ w.frozen? ⟨g, 5, none⟩ = false := ⟨(blk_cell h 0).trans rfl, (blk_cell h 1).trans rfl, (blk_cell h 2).trans rfl, (blk_cell h 3).trans rfl, (blk_cell h 4).trans rfl, (blk_cell h 5).trans rfl, blk_frozen h 0, blk_frozen h 1, blk_frozen h 2, blk_frozen h 3, blk_frozen h 4, blk_frozen h 5⟩
theorem box7 {w : World} {g t : Nat} {a0 a1 a2 a3 a4 a5 a6 : Value} (h : w.heap[g]? = some (.cells #[a0, a1, a2, a3, a4, a5, a6] t (0, 0))) : w.cell? ⟨g, 0, none⟩ = some a0 ∧ w.cell? ⟨g, 1, none⟩ = some a1 ∧ w.cell? ⟨g, 2, none⟩ = some a2 ∧ w.cell? ⟨g, 3, none⟩ = some a3 ∧ w.cell? ⟨g, 4, none⟩ = some a4 ∧ w.cell? ⟨g, 5, none⟩ = some a5 ∧ w.cell? ⟨g, 6, none⟩ = some a6 ∧ w.frozen? ⟨g, 0, none⟩ = false ∧ w.frozen? ⟨g, 1, none⟩ = false ∧ w.frozen? ⟨g, 2, none⟩ = false ∧ w.frozen? ⟨g, 3, none⟩ = false ∧ w.frozen? ⟨g, 4, none⟩ = false ∧ w.frozen? ⟨g, 5, none⟩ = false ∧ w.frozen? ⟨g, 6, none⟩ = false := ⟨(blk_cell h 0).trans rfl, (blk_cell h 1).trans rfl, (blk_cell h 2).trans rfl, (blk_cell h 3).trans rfl, (blk_cell h 4).trans rfl, (blk_cell h 5).trans rfl, (blk_cell h 6).trans rfl, blk_frozen h 0, blk_frozen h 1, blk_frozen h 2, blk_frozen h 3, blk_frozen h 4, blk_frozen h 5, blk_frozen h 6⟩
theorem box8 {w : World} {g t : Nat} {a0 a1 a2 a3 a4 a5 a6 a7 : Value} (h : w.heap[g]? = some (.cells #[a0, a1, a2, a3, a4, a5, a6, a7] t (0, 0))) : w.cell? ⟨g, 0, none⟩ = some a0 ∧ w.cell? ⟨g, 1, none⟩ = some a1 ∧ w.cell? ⟨g, 2, none⟩ = some a2 ∧ w.cell? ⟨g, 3, none⟩ = some a3 ∧ w.cell? ⟨g, 4, none⟩ = some a4 ∧ w.cell? ⟨g, 5, none⟩ = some a5 ∧ w.cell? ⟨g, 6, none⟩ = some a6 ∧ w.cell? ⟨g, 7, none⟩ = some a7 ∧ w.frozen? ⟨g, 0, none⟩ = false ∧ w.frozen? ⟨g, 1, none⟩ = false ∧ w.frozen? ⟨g, 2, none⟩ = false ∧ w.frozen? ⟨g, 3, none⟩ = false ∧ w.frozen? ⟨g, 4, none⟩ = false ∧ w.frozen? ⟨g, 5, none⟩ = false ∧ w.frozen? ⟨g, 6, none⟩ = false ∧ w.frozen? ⟨g, 7, none⟩ = false := ⟨(blk_cell h 0).trans rfl, (blk_cell h 1).trans rfl, (blk_cell h 2).trans rfl, (blk_cell h 3).trans rfl, (blk_cell h 4).trans rfl, (blk_cell h 5).trans rfl, (blk_cell h 6).trans rfl, (blk_cell h 7).trans rfl, blk_frozen h 0, blk_frozen h 1, blk_frozen h 2, blk_frozen h 3, blk_frozen h 4, blk_frozen h 5, blk_frozen h 6, blk_frozen h 7⟩

end Go.Proofs.Ytfmlamnkpoloaaa.Q

/- A table of clients in memory: what stands there, and how it stays. -/
namespace Go.Proofs.Ytfmlamnkpoloaaa.Q
open Go.RowKit Go.Proofs.YtfmlamnkpoloaaaW.PrintWords Go.Proofs.YtfmlamnkpoloaaaW.PrintLast Go.Proofs.YtfmlamnkpoloaaaW.PrintMore
set_option linter.unusedVariables false
set_option linter.unusedSimpArgs false

/-- Nothing but the blocks of S has changed; new ones may be there. -/
structure Chg (S : Nat → Prop) (w w' : World) : Prop where
  low : Below 0 w w'
  keep : ∀ k, k < w.heap.size → ¬ S k → w'.heap[k]? = w.heap[k]?
theorem Chg.refl (S : Nat → Prop) (w : World) : Chg S w w := ⟨Below.refl _ _, fun _ _ _ => rfl⟩
theorem Chg.trans {S : Nat → Prop} {a b c : World} (h : Chg S a b) (k : Chg S b c) : Chg S a c :=
  ⟨h.low.trans k.low, fun i hi hn => (k.keep i (Nat.lt_of_lt_of_le hi h.low.size) hn).trans (h.keep i hi hn)⟩
theorem Chg.mono {S S' : Nat → Prop} {a b : World} (h : Chg S a b) (hs : ∀ k, S k → S' k) : Chg S' a b := ⟨h.low, fun i hi hn => h.keep i hi (fun hk => hn (hs i hk))⟩
theorem Chg.of_below {a b : World} (h : Below a.heap.size a b) (S : Nat → Prop) : Chg S a b := ⟨h.mono (Nat.zero_le _), fun i hi _ => h.block i hi⟩
theorem Chg.drewN {S : Nat → Prop} {a b : World} (h : Chg S a b) (n : Nat) : Chg S a (b.drewN n) := ⟨pw_below_drewN h.low n, h.keep⟩
theorem Chg.drew {S : Nat → Prop} {a b : World} (h : Chg S a b) : Chg S a b.drew := ⟨below_drew1 h.low, h.keep⟩
theorem Chg.set {S : Nat → Prop} {a b : World} (h : Chg S a b) {p : Addr} (hp : S p.block ∨ a.heap.size ≤ p.block) (u : Value) : Chg S a (b.setCell p u) :=
  ⟨h.low.setCell (Nat.zero_le _) u, fun i hi hn => (Below.heap_setCell b p u i (fun he => by subst he; rcases hp with hp | hp; exact hn hp; omega)).trans (h.keep i hi hn)⟩
theorem Chg.alloc {S : Nat → Prop} {a b : World} (h : Chg S a b) (o : Obj) : Chg S a (b.alloc o) :=
  ⟨h.low.alloc (Nat.zero_le _) o, fun i hi hn => (Below.heap_alloc b o i (Nat.lt_of_lt_of_le hi h.low.size)).trans (h.keep i hi hn)⟩
theorem Chg.below {S : Nat → Prop} {B : Nat} {a b c : World} (h : Chg S b c) (hb : Below B a b) (hB : B ≤ b.heap.size) (hs : ∀ k, S k → B ≤ k) : Below B a c :=
  ⟨h.low.os.trans hb.os, h.low.tape.trans hb.tape, h.low.output.trans hb.output, Nat.le_trans hb.size h.low.size, fun k hk => (h.keep k (by omega) (fun hS => by have := hs k hS; omega)).trans (hb.block k hk)⟩

/-- A client: how many it has got, and the codes of the others. -/
structure Cl where
  got : Int
  codes : List Int
abbrev Tb := Nat → Cl
def Tb.upd (T : Tb) (n : Nat) (c : Cl) : Tb := fun m => if m = n then c else T m
def nextOf (c : Cl) : Int := c.got + c.codes.length + 1
/-- A row of numbers that is read. -/
def RowI (w : World) (ok : Nat → Prop) (v : Value) (xs : List Int) : Prop := Kd.V (Kd.int .i64) 3 w 0 ok v xs
structure TabAt (ok : Nat → Prop) (w : World) (t : Nat) (T : Tb) : Prop where
  mk ::
  all : ∃ cs : Array Value, w.heap[t]? = some (.cells cs 56 (0, 0)) ∧ cs.size = 12 ∧ ∀ n, n < 6 → cs[n * 2]? = some (.int .i64 (T n).got) ∧ ∃ v, cs[n * 2 + 1]? = some v ∧ RowI w ok v (T n).codes
theorem RowI.chg {w w' : World} {ok S : Nat → Prop} {v : Value} {xs : List Int} (h : RowI w ok v xs) (hc : Chg S w w') (hs : ∀ k, ok k → ¬ S k) : RowI w' ok v xs :=
  Kd.V_step h (fun k hk hlt => hc.keep k hlt (hs k hk))
theorem TabAt.chg {w w' : World} {ok S : Nat → Prop} {t : Nat} {T : Tb} (h : TabAt ok w t T) (hc : Chg S w w') (ht : ¬ S t) (hs : ∀ k, ok k → ¬ S k) : TabAt ok w' t T := by
  obtain ⟨cs, hb, hz, ha⟩ := h.all
  refine ⟨cs, (hc.keep t (blk_lt hb) ht).trans hb, hz, fun n hn => ?_⟩
  obtain ⟨h1, v, h2, h3⟩ := ha n hn
  exact ⟨h1, v, h2, h3.chg hc hs⟩
theorem TabAt.lt {w : World} {ok : Nat → Prop} {t : Nat} {T : Tb} (h : TabAt ok w t T) : t < w.heap.size := by
  obtain ⟨cs, hb, -⟩ := h.all
  exact blk_lt hb
/-- What is read at a client's place. -/
theorem TabAt.cells {w : World} {ok : Nat → Prop} {t : Nat} {T : Tb} (h : TabAt ok w t T) {n : Nat} (hn : n < 6) :
    w.cell? ⟨t, n * 2, none⟩ = some (.int .i64 (T n).got) ∧ (∃ A c, w.cell? ⟨t, n * 2 + 1, none⟩ = some (.slice A (T n).codes.length c) ∧ (T n).codes.length ≤ c ∧ RowI w ok (.slice A (T n).codes.length c) (T n).codes) ∧ (∀ j, w.frozen? ⟨t, j, none⟩ = false) := by
  obtain ⟨cs, hb, hz, ha⟩ := h.all
  obtain ⟨h1, v, h2, h3⟩ := ha n hn
  obtain ⟨A, c, rfl⟩ := Kd.V_slice h3
  refine ⟨(blk_cell hb _).trans h1, ⟨A, c, (blk_cell hb _).trans h2, (Kd.V_at h3).2.1, h3⟩, fun j => blk_frozen hb j⟩

end Go.Proofs.Ytfmlamnkpoloaaa.Q

/- The contracts of the table's small functions: New, find, next, Next, First, Code. -/
namespace Go.Proofs.Ytfmlamnkpoloaaa.Q
open Go.RowKit Go.Proofs.YtfmlamnkpoloaaaW.PrintWords Go.Proofs.YtfmlamnkpoloaaaW.PrintLast Go.Proofs.YtfmlamnkpoloaaaW.PrintMore
set_option linter.unusedVariables false
set_option linter.unusedSimpArgs false

def T0 : Tb := fun _ => ⟨0, []⟩
theorem new_calls (w : World) : Calls Try.prog 8 #[] w fun e w' => e = .returned (.pointer (some ⟨w.heap.size, 0, none⟩)) ∧ (∀ ok, TabAt ok w' w.heap.size T0) ∧ Below w.heap.size w w' ∧ w'.heap.size = w.heap.size + 1 := by
  go_enter Try.func8, Try.ntmps8
  go_wp2
  go_ret
  refine ⟨rfl, fun ok => ?_, below_alloc (Below.refl _ _) _, by simp⟩
  refine ⟨_, blk_new _ _, by simp, fun n hn => ?_⟩
  rcases n with _ | _ | _ | _ | _ | _ | n
  case succ.succ.succ.succ.succ.succ => omega
  all_goals exact ⟨rfl, _, rfl, Kd.V_nil _ _ _ _ _⟩

theorem find_ok (t n : Nat) (hn : n < 6) (w : World) : Calls Try.prog 26 #[.pointer (some ⟨t, 0, none⟩), .int .i64 (n : Int)] w fun e w' => e = .returned (.tuple #[.pointer (some ⟨t, n * 2, none⟩), .int .i64 0]) ∧ w = w' := by
  go_enter Try.func26, Try.ntmps26
  go_wp2
  go_ret2
  exact ⟨rfl, rfl⟩
theorem find_bad (t : Nat) (n : Int) (hn : n < 0 ∨ 6 ≤ n) (w : World) : Calls Try.prog 26 #[.pointer (some ⟨t, 0, none⟩), .int .i64 n] w fun e w' => e = .returned (.tuple #[.pointer none, .int .i64 14]) ∧ w = w' := by
  rcases hn with hn | hn
  all_goals
    go_enter Try.func26, Try.ntmps26
    go_wp2
    go_ret2
    exact ⟨rfl, rfl⟩
theorem find_nil (n : Int) (w : World) : Calls Try.prog 26 #[.pointer none, .int .i64 n] w fun e w' => e = .returned (.tuple #[.pointer none, .int .i64 1]) ∧ w = w' := by
  go_enter Try.func26, Try.ntmps26
  go_wp2
  go_ret2
  exact ⟨rfl, rfl⟩
theorem next_calls (t o : Nat) (g : Int) (A : Option Addr) (len c : Nat) (w : World) (h0 : 0 ≤ g) (h1 : g + len ≤ 1152921504606846976) (hg : w.cell? ⟨t, o, none⟩ = some (.int .i64 g)) (hs : w.cell? ⟨t, o + 1, none⟩ = some (.slice A len c)) :
    Calls Try.prog 27 #[.pointer (some ⟨t, o, none⟩)] w fun e w' => e = .returned (.int .i64 (g + len + 1)) ∧ ∃ n, w' = w.drewN n := by
  go_enter Try.func27, Try.ntmps27
  go_wp2
  go_quiet (fail)
  go_wp2
  go_ret
  exact ⟨rfl, _, rfl⟩

end Go.Proofs.Ytfmlamnkpoloaaa.Q

/- The contracts of the table's reading methods: Next, First, Code. -/
namespace Go.Proofs.Ytfmlamnkpoloaaa.Q
open Go.RowKit Go.Proofs.YtfmlamnkpoloaaaW.PrintWords Go.Proofs.YtfmlamnkpoloaaaW.PrintLast Go.Proofs.YtfmlamnkpoloaaaW.PrintMore
set_option linter.unusedVariables false
set_option linter.unusedSimpArgs false

/-- Is there such a client? -/
def isC (n : Int) : Prop := 0 ≤ n ∧ n < 6
instance (n : Int) : Decidable (isC n) := by unfold isC; infer_instance
/-- A client in bounds. -/
def Fine (c : Cl) : Prop := 0 ≤ c.got ∧ c.got + c.codes.length ≤ 1152921504606846976 ∧ c.codes.length ≤ 1099511627776
def dNext (T : Tb) (n : Int) : Int := if isC n then nextOf (T n.toNat) else 0
def dFirst (T : Tb) (n : Int) : Int := if isC n then (T n.toNat).got + 1 else 0
def dCode (T : Tb) (n seq : Int) : Int × Int :=
  if isC n then
    if seq < 1 ∨ nextOf (T n.toNat) ≤ seq then (0, 8) else if seq ≤ (T n.toNat).got then (0, 13) else (rd (T n.toNat).codes (seq - (T n.toNat).got - 1), 0)
  else (0, 14)
theorem isC_nat {n : Int} (h : isC n) : ∃ m : Nat, m < 6 ∧ n = m := ⟨n.toNat, by unfold isC at h; omega, by unfold isC at h; omega⟩
theorem not_isC {n : Int} (h : ¬ isC n) : n < 0 ∨ 6 ≤ n := by unfold isC at h; omega

set_option maxHeartbeats 1000000 in
theorem Next_calls (ok : Nat → Prop) (t : Nat) (T : Tb) (n : Int) (w : World) (hT : TabAt ok w t T) (hF : ∀ m, m < 6 → Fine (T m)) :
    Calls Try.prog 12 #[.pointer (some ⟨t, 0, none⟩), .int .i64 n] w fun e w' => e = .returned (.int .i64 (dNext T n)) ∧ ∃ k, w' = w.drewN k := by
  by_cases hn : isC n
  · obtain ⟨m, hm, rfl⟩ := isC_nat hn
    obtain ⟨hc0, ⟨A, c, hc1, -, -⟩, -⟩ := hT.cells hm
    have hf := hF m hm
    have e : dNext T m = (T m).got + ((T m).codes.length : Int) + 1 := by rw [dNext, if_pos hn, nextOf, Int.toNat_natCast]
    have E := Aside0.mk e
    clear e hn
    go_enter Try.func12, Try.ntmps12
    go_wp2_with (first | (go_at_call 26; refine (find_ok t m hm _).mono ?_; rintro e w' ⟨rfl, rfl⟩) | (go_at_call 27; refine (next_calls t (m * 2) (T m).got A _ c _ hf.1 hf.2.1 hc0 hc1).mono ?_; rintro e w' ⟨rfl, k, rfl⟩))
    go_ret
    exact ⟨ret_int E.out.symm, _, rfl⟩
  · have E := Aside0.mk (show dNext T n = 0 from if_neg hn)
    have hn := not_isC hn
    clear hT hF
    go_enter Try.func12, Try.ntmps12
    go_wp2_with (go_at_call 26; refine (find_bad t n hn _).mono ?_; rintro e w' ⟨rfl, rfl⟩)
    go_ret
    exact ⟨ret_int E.out.symm, 0, rfl⟩
set_option maxHeartbeats 1000000 in
theorem First_calls (ok : Nat → Prop) (t : Nat) (T : Tb) (n : Int) (w : World) (hT : TabAt ok w t T) (hF : ∀ m, m < 6 → Fine (T m)) :
    Calls Try.prog 23 #[.pointer (some ⟨t, 0, none⟩), .int .i64 n] w fun e w' => e = .returned (.int .i64 (dFirst T n)) ∧ ∃ k, w' = w.drewN k := by
  by_cases hn : isC n
  · obtain ⟨m, hm, rfl⟩ := isC_nat hn
    obtain ⟨hc0, -, -⟩ := hT.cells hm
    have hf := (hF m hm).1
    have hf2 : (T m).got ≤ 1152921504606846976 := by have := (hF m hm).2.1; omega
    have E := Aside0.mk (show dFirst T m = (T m).got + 1 by rw [dFirst, if_pos hn, Int.toNat_natCast])
    clear hn
    go_enter Try.func23, Try.ntmps23
    go_wp2_with (go_at_call 26; refine (find_ok t m hm _).mono ?_; rintro e w' ⟨rfl, rfl⟩)
    go_ret
    exact ⟨ret_int E.out.symm, 0, rfl⟩
  · have E := Aside0.mk (show dFirst T n = 0 from if_neg hn)
    have hn := not_isC hn
    clear hT hF
    go_enter Try.func23, Try.ntmps23
    go_wp2_with (go_at_call 26; refine (find_bad t n hn _).mono ?_; rintro e w' ⟨rfl, rfl⟩)
    go_ret
    exact ⟨ret_int E.out.symm, 0, rfl⟩
theorem RowI.cell {w : World} {ok : Nat → Prop} {A : Option Addr} {n c : Nat} {xs : List Int} (h : RowI w ok (.slice A n c) xs) (i : Int) (h0 : 0 ≤ i) (h1 : i < n) : ∃ ad, A = some ad ∧ w.cell? (ad.add i.toNat) = some (.int .i64 (rd xs i)) := by
  obtain ⟨hx, hle, hF⟩ := Kd.V_at h
  subst hx
  obtain ⟨ad, e, hc⟩ := Kd.at_int (Kd.F_now hF) i h0 h1
  exact ⟨ad, e, hc⟩
set_option maxHeartbeats 2000000 in
theorem Code_calls (ok : Nat → Prop) (t : Nat) (T : Tb) (n seq : Int) (w : World) (hT : TabAt ok w t T) (hF : ∀ m, m < 6 → Fine (T m)) :
    Calls Try.prog 14 #[.pointer (some ⟨t, 0, none⟩), .int .i64 n, .int .i64 seq] w fun e w' => e = .returned (.tuple #[.int .i64 (dCode T n seq).1, .int .i64 (dCode T n seq).2]) ∧ ∃ k, w' = w.drewN k := by
  by_cases hn : isC n
  · obtain ⟨m, hm, rfl⟩ := isC_nat hn
    obtain ⟨hc0, ⟨A, c, hc1, hlc, hR⟩, -⟩ := hT.cells hm
    have hf := hF m hm
    have hf0 := hf.1
    have hf1 := hf.2.1
    have e : dCode T m seq = if seq < 1 ∨ nextOf (T m) ≤ seq then (0, 8) else if seq ≤ (T m).got then (0, 13) else (rd (T m).codes (seq - (T m).got - 1), 0) := by rw [dCode, if_pos hn, Int.toNat_natCast]
    rw [e]
    unfold nextOf
    clear e hn hT hF hf
    generalize (T m).got = g at *
    generalize (T m).codes = l at *
    by_cases h1 : seq < 1
    · rw [if_pos (.inl h1)]
      go_enter Try.func14, Try.ntmps14
      go_wp2_with (first | (go_at_call 26; refine (find_ok t m hm _).mono ?_; rintro e w' ⟨rfl, rfl⟩))
      go_ret2
      exact ⟨rfl, 0, rfl⟩
    · by_cases h2 : g + (l.length : Int) + 1 ≤ seq
      · rw [if_pos (.inr h2)]
        go_enter Try.func14, Try.ntmps14
        go_wp2_with (first | (go_at_call 26; refine (find_ok t m hm _).mono ?_; rintro e w' ⟨rfl, rfl⟩) | (go_at_call 27; refine (next_calls t (m * 2) g A _ c _ hf0 hf1 hc0 hc1).mono ?_; rintro e w' ⟨rfl, k, rfl⟩))
        go_ret2
        exact ⟨rfl, _, rfl⟩
      · rw [if_neg (by omega)]
        by_cases h3 : seq ≤ g
        · rw [if_pos h3]
          go_enter Try.func14, Try.ntmps14
          go_wp2_with (first | (go_at_call 26; refine (find_ok t m hm _).mono ?_; rintro e w' ⟨rfl, rfl⟩) | (go_at_call 27; refine (next_calls t (m * 2) g A _ c _ hf0 hf1 hc0 hc1).mono ?_; rintro e w' ⟨rfl, k, rfl⟩))
          go_ret2
          exact ⟨rfl, _, rfl⟩
        · rw [if_neg h3]
          obtain ⟨j, hj⟩ : ∃ j : Nat, seq - g - 1 = j := ⟨(seq - g - 1).toNat, by omega⟩
          rw [hj]
          obtain ⟨ad, rfl, hcell⟩ := hR.cell (j : Int) (by omega) (by omega)
          rw [Int.toNat_natCast] at hcell
          have i1 : (0 : Int) ≤ (j : Int) := by omega
          have i2 : (j : Int) < (l.length : Int) := by omega
          have s2 : IntKind.i64.wrap (seq - g - 1) = (j : Int) := by rw [IntWalk.i64_in _ (by omega), hj]
          have s1 : IntKind.i64.wrap (seq - g) = seq - g := IntWalk.i64_in _ (by omega)
          clear hj
          clear hR
          go_enter Try.func14, Try.ntmps14
          go_wp2_with (first | (go_at_call 26; refine (find_ok t m hm _).mono ?_; rintro e w' ⟨rfl, rfl⟩) | (go_at_call 27; refine (next_calls t (m * 2) g (some ad) _ c _ hf0 hf1 hc0 hc1).mono ?_; rintro e w' ⟨rfl, k, rfl⟩))
          go_region_held3 (fun w' => w'.cell? ⟨t, m * 2, none⟩ = some (.int .i64 g) ∧ w'.cell? ⟨t, m * 2 + 1, none⟩ = some (.slice (some ad) l.length c) ∧ w'.cell? (ad.add j) = some (.int .i64 (rd l (j : Int)))) (go_keep) (fail)
          go_wp2
          go_ret2
          exact ⟨rfl, k + 1, rfl⟩
  · have e : dCode T n seq = (0, 14) := if_neg hn
    rw [e]
    clear e
    show Calls _ _ _ _ fun e w' => e = .returned (.tuple #[.int .i64 0, .int .i64 14]) ∧ ∃ k, w' = w.drewN k
    have hn := not_isC hn
    clear hT hF
    go_enter Try.func14, Try.ntmps14
    go_wp2_with (go_at_call 26; refine (find_bad t n hn _).mono ?_; rintro e w' ⟨rfl, rfl⟩)
    go_ret2
    exact ⟨rfl, 0, rfl⟩

end Go.Proofs.Ytfmlamnkpoloaaa.Q

/- A region that draws its order, walked once, by a plan: a plan lists the operations with what each is: 0 it reads what S tells (taken first), 1 it yields in every world, 2 it alone may come up (S is shown behind it), 3 it alone may come up, and all that reads stands ahead of it. -/
namespace Go.Proofs.Ytfmlamnkpoloaaa.Q
open Go.RowKit Go.Proofs.YtfmlamnkpoloaaaW.PrintWords Go.Proofs.YtfmlamnkpoloaaaW.PrintLast Go.Proofs.YtfmlamnkpoloaaaW.PrintMore
set_option linter.unusedVariables false
set_option linter.unusedSimpArgs false

section
variable {P : Program} {ops : Array Oper} {Q : Exit → Act → World → Prop} {S : World → Prop}
def RP (P : Program) (ops : Array Oper) (Q : Exit → Act → World → Prop) (S : World → Prop) : List (Nat × Nat × Nat) → Act → World → Prop
  | [], a, w => Q .normal a w
  | (i, 0, d) :: r, a, w => ∃ o v, ops[i]? = some o ∧ o.dst = some d ∧ S w ∧ YieldsIf P ops S o v a ∧ RP P ops Q S r (a.put (some d) v) w
  | (i, 1, d) :: r, a, w => ∃ o v, ops[i]? = some o ∧ o.dst = some d ∧ Yields P ops o v a ∧ RP P ops Q S r (a.put (some d) v) w
  | (i, 2, d) :: r, a, w => ∃ o, ops[i]? = some o ∧ o.dst = some d ∧ ∀ K : Act → World → Prop, Shut (∀ a' w', S w' → (S w' → RP P ops Q S r a' w') → K a' w') → if Region.wanted o (yielded ops a.tmps) = true then Oper.wp P o a w K Q else K (a.put (some d) undef) w
  | (i, 3, d) :: r, a, w => ∃ o, ops[i]? = some o ∧ o.dst = none ∧ ∀ K : Act → World → Prop, Shut (∀ a' w', RP P ops Q S r a' w' → K a' w') → if Region.wanted o (yielded ops a.tmps) = true then Oper.wp P o a w K Q else K (a.put (none) undef) w
  | (i, 4, d) :: r, a, w => ∃ o, ops[i]? = some o ∧ o.dst = none ∧ ∀ K : Act → World → Prop, Shut (∀ a' w', S w' → (S w' → RP P ops Q S r a' w') → K a' w') → if Region.wanted o (yielded ops a.tmps) = true then Oper.wp P o a w K Q else K (a.put (none) undef) w
  | (i, _ + 5, d) :: r, a, w => ∃ o, ops[i]? = some o ∧ o.dst = some d ∧ ∀ K : Act → World → Prop, Shut (∀ a' w', RP P ops Q S r a' w' → K a' w') → if Region.wanted o (yielded ops a.tmps) = true then Oper.wp P o a w K Q else K (a.put (some d) undef) w
def planOk (ops : Array Oper) (ds : List Nat) : List (Nat × Nat × Nat) → Array Bool → Bool
  | [], l => Region.ready .any ops l == []
  | (i, 0, _) :: r, l => takeB .any ops ds l (l.setIfInBounds i true) i && planOk ops ds r (l.setIfInBounds i true)
  | (i, 1, _) :: r, l => anyB .any ops l (l.setIfInBounds i true) i && planOk ops ds r (l.setIfInBounds i true)
  | (i, 2, _) :: r, l => (readyB .any ops l (l.setIfInBounds i true) i && !ds.contains i) && planOk ops ds r (l.setIfInBounds i true)
  | (i, 3, _) :: r, l => (readyB .any ops l (l.setIfInBounds i true) i && ds.contains i) && planOk ops ds r (l.setIfInBounds i true)
  | (i, 4, _) :: r, l => (readyB .any ops l (l.setIfInBounds i true) i && !ds.contains i) && planOk ops ds r (l.setIfInBounds i true)
  | (i, _ + 5, _) :: r, l => (readyB .any ops l (l.setIfInBounds i true) i && ds.contains i) && planOk ops ds r (l.setIfInBounds i true)
theorem RP.sound {ds : List Nat} (hQ : ∀ c t v a w, Q (.panic c) (Act.put a t v) w → Q (.panic c) a w) : ∀ (p : List (Nat × Nat × Nat)) (l : Array Bool) (a : Act) (w : World), planOk ops ds p l = true → RP P ops Q S p a w → wpAnyLast P .any ops Q S ds p.length l a w
  | [], l, a, w, hp, h => done_ hp h
  | (i, 0, d) :: r, l, a, w, hp, h => by
    obtain ⟨o, v, ho, hd, hS, hy, h⟩ := h
    simp only [planOk, Bool.and_eq_true] at hp
    exact take_ _ ho hd hp.1 (fun c a w => hQ c _ _ a w) hy hS rfl (RP.sound hQ r _ _ _ hp.2 h)
  | (i, 1, d) :: r, l, a, w, hp, h => by
    obtain ⟨o, v, ho, hd, hy, h⟩ := h
    simp only [planOk, Bool.and_eq_true] at hp
    exact pure_ _ ho hd hp.1 (fun c a w => hQ c _ _ a w) hy rfl (RP.sound hQ r _ _ _ hp.2 h)
  | (i, 2, d) :: r, l, a, w, hp, h => by
    obtain ⟨o, ho, hd, h⟩ := h
    simp only [planOk, Bool.and_eq_true, Bool.not_eq_true'] at hp
    exact one_ _ ho hd hp.1.1 (by have := hp.1.2; simpa using this) (fun K hK => h K (fun a' w' hS' hr => hK a' w' hS' (fun hS2 => RP.sound hQ r _ _ _ hp.2 (hr hS2))))
  | (i, 3, d) :: r, l, a, w, hp, h => by
    obtain ⟨o, ho, hd, h⟩ := h
    simp only [planOk, Bool.and_eq_true] at hp
    exact last_ _ ho hd hp.1.1 (by have := hp.1.2; simpa using this) (fun K hK => h K (fun a' w' hr => hK a' w' (RP.sound hQ r _ _ _ hp.2 hr)))
  | (i, 4, d) :: r, l, a, w, hp, h => by
    obtain ⟨o, ho, hd, h⟩ := h
    simp only [planOk, Bool.and_eq_true, Bool.not_eq_true'] at hp
    exact one_ _ ho hd hp.1.1 (by have := hp.1.2; simpa using this) (fun K hK => h K (fun a' w' hS' hr => hK a' w' hS' (fun hS2 => RP.sound hQ r _ _ _ hp.2 (hr hS2))))
  | (i, _ + 5, d) :: r, l, a, w, hp, h => by
    obtain ⟨o, ho, hd, h⟩ := h
    simp only [planOk, Bool.and_eq_true] at hp
    exact last_ _ ho hd hp.1.1 (by have := hp.1.2; simpa using this) (fun K hK => h K (fun a' w' hr => hK a' w' (RP.sound hQ r _ _ _ hp.2 hr)))
/-- The region, by a plan. -/
theorem wp_plan {id : Nat} {a : Act} {w : World} (p : List (Nat × Nat × Nat)) (ds : List Nat) (S : World → Prop) (hm : P.follows .mixedOrders = true) (hn : ops.size = p.length) (hp : planOk ops ds p (Array.replicate p.length false) = true)
    (hQ : ∀ c t v a w, Q (.panic c) (Act.put a t v) w → Q (.panic c) a w) (hS : S (w.drewN 1)) (h : S (w.drewN 1) → RP P ops Q S p a (w.drewN 1)) : (Code.region id ops true).wp P Q a w :=
  start_ _ hm hn rfl hS (fun hs => RP.sound hQ p _ _ _ hp (h hs))
theorem RP.take {i d : Nat} {r : List (Nat × Nat × Nat)} {a : Act} {w : World} {o : Oper} {v : Value} (ho : ops[i]? = some o) (hd : o.dst = some d) (hS : S w) (hy : YieldsIf P ops S o v a) {a' : Act} (ha : a.put (some d) v = a') (h : RP P ops Q S r a' w) : RP P ops Q S ((i, 0, d) :: r) a w := by
  subst ha
  exact ⟨o, v, ho, hd, hS, hy, h⟩
theorem RP.pure {i d : Nat} {r : List (Nat × Nat × Nat)} {a : Act} {w : World} {o : Oper} {v : Value} (ho : ops[i]? = some o) (hd : o.dst = some d) (hy : Yields P ops o v a) {a' : Act} (ha : a.put (some d) v = a') (h : RP P ops Q S r a' w) : RP P ops Q S ((i, 1, d) :: r) a w := by
  subst ha
  exact ⟨o, v, ho, hd, hy, h⟩
theorem RP.one {i d : Nat} {r : List (Nat × Nat × Nat)} {a : Act} {w : World} {o : Oper} (ho : ops[i]? = some o) (hd : o.dst = some d) (h : ∀ K : Act → World → Prop, Shut (∀ a' w', S w' → (S w' → RP P ops Q S r a' w') → K a' w') → if Region.wanted o (yielded ops a.tmps) = true then Oper.wp P o a w K Q else K (a.put (some d) undef) w) : RP P ops Q S ((i, 2, d) :: r) a w := ⟨o, ho, hd, h⟩
theorem RP.last {i d : Nat} {r : List (Nat × Nat × Nat)} {a : Act} {w : World} {o : Oper} (ho : ops[i]? = some o) (hd : o.dst = none) (h : ∀ K : Act → World → Prop, Shut (∀ a' w', RP P ops Q S r a' w' → K a' w') → if Region.wanted o (yielded ops a.tmps) = true then Oper.wp P o a w K Q else K (a.put (none) undef) w) : RP P ops Q S ((i, 3, d) :: r) a w := ⟨o, ho, hd, h⟩
theorem RP.one0 {i d : Nat} {r : List (Nat × Nat × Nat)} {a : Act} {w : World} {o : Oper} (ho : ops[i]? = some o) (hd : o.dst = none) (h : ∀ K : Act → World → Prop, Shut (∀ a' w', S w' → (S w' → RP P ops Q S r a' w') → K a' w') → if Region.wanted o (yielded ops a.tmps) = true then Oper.wp P o a w K Q else K (a.put (none) undef) w) : RP P ops Q S ((i, 4, d) :: r) a w := ⟨o, ho, hd, h⟩
theorem RP.last1 {i d : Nat} {r : List (Nat × Nat × Nat)} {a : Act} {w : World} {o : Oper} (ho : ops[i]? = some o) (hd : o.dst = some d) (h : ∀ K : Act → World → Prop, Shut (∀ a' w', RP P ops Q S r a' w' → K a' w') → if Region.wanted o (yielded ops a.tmps) = true then Oper.wp P o a w K Q else K (a.put (some d) undef) w) : RP P ops Q S ((i, 5, d) :: r) a w := ⟨o, ho, hd, h⟩
theorem RP.nil {a : Act} {w : World} (h : Q .normal a w) : RP P ops Q S [] a w := h
theorem RP.norm {p : List (Nat × Nat × Nat)} {a a' : Act} {w : World} (ha : a = a') (h : RP P ops Q S p a' w) : RP P ops Q S p a w := by
  subst ha
  exact h
end

end Go.Proofs.Ytfmlamnkpoloaaa.Q

/- The contracts of the table's writing methods: Put, Got. -/
namespace Go.Proofs.Ytfmlamnkpoloaaa.Q
open Go.RowKit Go.Proofs.YtfmlamnkpoloaaaW.PrintWords Go.Proofs.YtfmlamnkpoloaaaW.PrintLast Go.Proofs.YtfmlamnkpoloaaaW.PrintMore
set_option linter.unusedVariables false
set_option linter.unusedSimpArgs false

def dPut (T : Tb) (n seq code : Int) : Int × Tb :=
  if isC n then
    if code < 0 ∨ 63 < code then (2, T) else if 1 ≤ seq ∧ seq < nextOf (T n.toNat) then (9, T) else if seq ≠ nextOf (T n.toNat) then (3, T)
    else if 32 ≤ ((T n.toNat).codes.length : Int) then (10, T) else (0, T.upd n.toNat ⟨(T n.toNat).got, (T n.toNat).codes ++ [code]⟩)
  else (14, T)
def dGot (T : Tb) (n upto : Int) : Int × Tb :=
  if isC n then
    if upto < 0 ∨ nextOf (T n.toNat) ≤ upto then (3, T) else if (T n.toNat).got < upto then (0, T.upd n.toNat ⟨upto, (T n.toNat).codes.drop (upto - (T n.toNat).got).toNat⟩) else (0, T)
  else (14, T)
theorem Chg.grown {S : Nat → Prop} {a b c : World} (h : Chg S a b) (hg : b.grownBy c none) : Chg S a c := h.trans ⟨(Below.refl 0 b).grown hg (Nat.zero_le _) (fun k hk => by cases hk), fun k hk _ => hg.block k hk (by simp)⟩
theorem RowI.far {w : World} {ok : Nat → Prop} {v : Value} {xs : List Int} (h : RowI w ok v xs) {p : Addr} (hok : ∀ k, ok k → k ≠ p.block) (u : Value) : RowI (w.setCell p u) ok v xs := Kd.V_far h hok u
theorem TabAt.setCodes {w : World} {ok : Nat → Prop} {t m : Nat} {T : Tb} {v : Value} {xs : List Int} (h : TabAt ok w t T) (hok : ∀ k, ok k → k ≠ t) (hm : m < 6) (hv : RowI w ok v xs) : TabAt ok (w.setCell ⟨t, m * 2 + 1, none⟩ v) t (T.upd m ⟨(T m).got, xs⟩) := by
  obtain ⟨cs, hb, hz, ha⟩ := h.all
  refine ⟨_, blk_set hb _ _, by simpa using hz, fun n hn => ?_⟩
  obtain ⟨h1, u, h2, h3⟩ := ha n hn
  unfold Tb.upd
  by_cases e : n = m
  · subst e
    rw [if_pos rfl]
    refine ⟨?_, v, ?_, hv.far hok _⟩
    · rw [Array.getElem?_setIfInBounds_ne (by omega)]; exact h1
    · rw [Array.getElem?_setIfInBounds_self_of_lt (by omega)]
  · rw [if_neg e]
    refine ⟨?_, u, ?_, h3.far hok _⟩
    · rw [Array.getElem?_setIfInBounds_ne (by omega)]; exact h1
    · rw [Array.getElem?_setIfInBounds_ne (by omega)]; exact h2
theorem TabAt.setGot {w : World} {ok : Nat → Prop} {t m : Nat} {T : Tb} {g : Int} (h : TabAt ok w t T) (hok : ∀ k, ok k → k ≠ t) (hm : m < 6) : TabAt ok (w.setCell ⟨t, m * 2, none⟩ (.int .i64 g)) t (T.upd m ⟨g, (T m).codes⟩) := by
  obtain ⟨cs, hb, hz, ha⟩ := h.all
  refine ⟨_, blk_set hb _ _, by simpa using hz, fun n hn => ?_⟩
  obtain ⟨h1, u, h2, h3⟩ := ha n hn
  unfold Tb.upd
  by_cases e : n = m
  · subst e
    rw [if_pos rfl]
    refine ⟨?_, u, ?_, h3.far hok _⟩
    · rw [Array.getElem?_setIfInBounds_self_of_lt (by omega)]
    · rw [Array.getElem?_setIfInBounds_ne (by omega)]; exact h2
  · rw [if_neg e]
    refine ⟨?_, u, ?_, h3.far hok _⟩
    · rw [Array.getElem?_setIfInBounds_ne (by omega)]; exact h1
    · rw [Array.getElem?_setIfInBounds_ne (by omega)]; exact h2
theorem infoI : (Try.prog.info? 3).map (fun i => (i.zero, i.size, i.bytes)) = some (some (.int .i64 0), 1, 8) := by kernel_rfl
/-- A row of numbers of the call's own is one that is read. -/
theorem RowI.of_own {w : World} {base n : Nat} {v : Value} {xs : List Int} {ok : Nat → Prop} (h : w.ownsRow base 3 1 v n (xs.map (Value.int .i64))) (hn : n = xs.length) (hok : ∀ k, base ≤ k → ok k) : RowI w ok v xs := by
  subst hn
  exact Kd.R_V (Kd.R_of_own (h1 := fun _ => rfl) h (fun k hk => hok k (own_base h k hk)))
theorem RowI.drewN {w : World} {ok : Nat → Prop} {v : Value} {xs : List Int} (h : RowI w ok v xs) (n : Nat) : RowI (w.drewN n) ok v xs := Kd.V_drewN h n
theorem RowI.drew {w : World} {ok : Nat → Prop} {v : Value} {xs : List Int} (h : RowI w ok v xs) : RowI w.drew ok v xs := Kd.V_drew h
theorem RowI.alloc {w : World} {ok : Nat → Prop} {v : Value} {xs : List Int} (h : RowI w ok v xs) (o : Obj) : RowI (w.alloc o) ok v xs := Kd.V_alloc h o
theorem RowI.none {w : World} {ok : Nat → Prop} {n c : Nat} {xs : List Int} (h : RowI w ok (.slice none n c) xs) : n = 0 := by
  obtain ⟨hx, -, hF⟩ := Kd.V_at h
  rcases Nat.eq_zero_or_pos n with h0 | h0
  · exact h0
  · obtain ⟨ad, e, -⟩ := (Kd.F_now hF).2.2 (hx ▸ h0)
    cases e
theorem RowI.holds {w : World} {ok : Nat → Prop} {A : Option Addr} {n c : Nat} {xs : List Int} (h : RowI w ok (.slice A n c) xs) : ∀ b, A = some b → ∀ j u, (xs.map (Value.int .i64))[j]? = some u → w.cell? (b.add j) = some u := by
  intro b hb j u hu
  obtain ⟨hx, -, -⟩ := Kd.V_at h
  rw [List.getElem?_map, Option.map_eq_some_iff] at hu
  obtain ⟨x, hj, rfl⟩ := hu
  obtain ⟨hlt, hj⟩ := List.getElem?_eq_some_iff.1 hj
  obtain ⟨ad, e, hc⟩ := h.cell (j : Int) (by omega) (by omega)
  subst hb
  cases e
  rw [Int.toNat_natCast] at hc
  rw [hc, ← hj]
  simp [rd, hlt]

/-- One more number behind a row without room: a new row. -/
theorem step_append_one {ops : Array Oper} {o : Oper} {a : Act} {W : World} {K : Act → World → Prop} {Q : Exit → Act → World → Prop} {E : Prop} {ok : Nat → Prop} {A : Option Addr} {c0 g : Nat} {l : List Int} {x : Int}
    (hg : o.guard = none) (s y : Operand) (hop : o.op = Op.call { callee := Callee.builtin Builtin.append, args := #[s, y], argTypes := #[26, 26] })
    (hs : a.eval s = .slice A l.length l.length) (hy : a.eval y = .slice (some ⟨g, 0, none⟩) 1 1) (hR : RowI W ok (.slice A l.length c0) l) (hb : W.heap[g]? = some (.cells #[.int .i64 x] 3 (0, 0))) (hl : l.length < 1099511627776) (hok : ∀ k, W.heap.size ≤ k → ok k)
    (hK : ∀ A1 c1 w1, RowI w1 ok (.slice A1 (l.length + 1) c1) (l ++ [x]) → W.grownBy w1 none → K (a.put o.dst (.slice A1 (l.length + 1) c1)) w1) :
    if Region.wanted o (yielded ops a.tmps) = true then Oper.wp Try.prog o a W K Q else E := by
  obtain ⟨i0, hi, hz0, hz1, hz2⟩ := info_parts infoI
  refine step_append_grows hg s y 26 hop 3 i0 (.int .i64 0) 1 8 Try.underlying26 hi hz0 hz1 hz2 rfl (by decide) A l.length l.length (l.map (Value.int .i64)) hs (fun e => by subst e; exact ⟨hR.none, hR.none⟩) (by simp) hR.holds ⟨g, 0, Option.none⟩ 1 1 [.int .i64 x] hy rfl
    (World.news_of_block (cs := #[.int .i64 x]) hb) (by simp [Value.oneCell']) (by omega) (by unfold maxLen; omega) (by omega) (fun v' w' hown hgrow => ?_)
  have HR1 := RowI.of_own (xs := l ++ [x]) (ok := ok) (by simpa using hown) (by simp) hok
  obtain ⟨A1, c1, rfl⟩ := Kd.V_slice HR1
  have e : (l ++ [x]).length = l.length + 1 := by simp
  rw [e] at HR1 ⊢
  exact hK A1 c1 w' HR1 hgrow
theorem below_cell {w : World} {t j n : Nat} {o : Obj} (hlt : t < w.heap.size) : ((w.drewN n).alloc o).cell? ⟨t, j, none⟩ = w.cell? ⟨t, j, none⟩ := (below_alloc (Below.refl (w.drewN n).heap.size _) o).cell (p := ⟨t, j, none⟩) hlt
theorem below_frozen {w : World} {t j n : Nat} {o : Obj} (hlt : t < w.heap.size) : ((w.drewN n).alloc o).frozen? ⟨t, j, none⟩ = w.frozen? ⟨t, j, none⟩ := (below_alloc (Below.refl (w.drewN n).heap.size _) o).frozen (p := ⟨t, j, none⟩) hlt
set_option maxHeartbeats 2000000 in
theorem put_last (ok : Nat → Prop) (t m : Nat) (hm : m < 6) (T : Tb) (code : Int) (w : World) (hT : TabAt ok w t T) (hF : ∀ m, m < 6 → Fine (T m)) (hok : ∀ k, ok k → k ≠ t) (hnew : ∀ k, w.heap.size ≤ k → ok k) (c1 : ¬ code < 0) (c2 : ¬ 63 < code) (c5 : ¬ 32 ≤ (T m).codes.length) :
    Calls Try.prog 13 #[.pointer (some ⟨t, 0, none⟩), .int .i64 (m : Int), .int .i64 ((T m).got + ((T m).codes.length : Int) + 1), .int .i64 code] w fun e w' => e = .returned (.int .i64 0) ∧ TabAt ok w' t (T.upd m ⟨(T m).got, (T m).codes ++ [code]⟩) ∧ Chg (fun k => k = t) w w' := by
  obtain ⟨hc0, ⟨A, c, hc1, hlc, hR⟩, hfz⟩ := hT.cells hm
  have hlt := hT.lt
  have hf := hF m hm
  have hf0 := hf.1
  have hf1 := hf.2.1
  have hfr := hfz (m * 2 + 1)
  have HT := Aside0.mk hT
  have HR := Aside0.mk hR
  have HN := Aside0.mk hnew
  have HO := Aside0.mk hok
  have HNo := Aside0.mk (show A = none → (T m).codes.length = 0 ∧ (T m).codes.length = 0 from fun e => by subst e; exact ⟨hR.none, hR.none⟩)
  obtain ⟨i0, hi, hz0, hz1, hz2⟩ := info_parts infoI
  clear hT hF hf hfz hR hnew hok
  generalize hg : (T m).got = g at *
  have HG := Aside0.mk hg
  clear hg
  generalize (T m).codes = l at *
  have e1 : ¬ (1 ≤ g + (l.length : Int) + 1 ∧ g + (l.length : Int) + 1 < g + (l.length : Int) + 1) := by omega
  go_enter Try.func13, Try.ntmps13
  go_wp2_with (first | (go_at_call 26; refine (find_ok t m hm _).mono ?_; rintro e w' ⟨rfl, rfl⟩) | (go_at_call 27; refine (next_calls t (m * 2) g A _ c _ hf0 hf1 (by exact hc0) (by exact hc1)).mono ?_; rintro e w' ⟨rfl, k, rfl⟩))
  refine wp_plan [(0, 0, 49), (1, 0, 50), (2, 0, 51), (3, 0, 52), (4, 0, 53), (5, 0, 54), (6, 0, 55), (7, 0, 56), (8, 0, 57), (9, 0, 58), (10, 0, 59), (11, 0, 60), (12, 0, 61), (13, 0, 62), (14, 0, 63), (15, 0, 64), (16, 0, 65), (17, 2, 66), (18, 2, 67), (19, 1, 68), (20, 1, 69), (21, 3, 0)] [21] (fun W => W.cell? ⟨t, m * 2 + 1, none⟩ = some (.slice A l.length c)) (by kernel_rfl) rfl (by kernel_rfl) (fun _ t _ _ _ h => by cases t <;> exact h) hc1 (fun hS => ?_)
  repeat (refine RP.take (v := ?_) (a' := ?_) rfl rfl (by assumption) (Or.inl ⟨by rfl, ?_⟩) ?_ ?_; rotate_left; (focus (intro w' hS; go_simp; with_reducible rfl)); rotate_left; (focus (simp only [Act.put, List.setIfInBounds_toArray, List.set_cons_zero, List.set_cons_succ, i64_w, i32_w]; rfl)))
  refine RP.one rfl rfl (fun K hK => ?_)
  go_simp
  refine hK.out _ _ ((below_cell hlt).trans hc1) (fun hS => ?_)
  clear hK K
  refine RP.one rfl rfl (fun K hK => ?_)
  refine step_append_one (ok := ok) (A := A) (c0 := c) (g := w.heap.size) (l := l) (x := code) (by rfl) (.tmp 64) (.tmp 66) (by rfl) (by rfl) (by rfl) ((HR.out.drewN _).alloc _) (heap_alloc_new _ _) (by omega) (fun k hk => HN.out k (Nat.le_trans (below_alloc (Below.refl _ (w.drewN _)) _).size hk)) ?_
  intro A1 c1 w1 HR1 hgrow
  have hcz1 : w1.cell? ⟨t, m * 2 + 1, none⟩ = some (.slice A l.length c) := (hgrow.cell_far _ (by simp; omega) (by simp)).trans ((below_cell hlt).trans hc1)
  have hfz1 : w1.frozen? ⟨t, m * 2 + 1, none⟩ = false := (hgrow.frozen_far _ (by simp; omega) (by simp)).trans ((below_frozen hlt).trans hfr)
  refine hK.out _ _ hcz1 (fun hS => ?_)
  clear hK K
  have hg2 := Aside0.mk (Chg.grown (((Chg.refl (fun _ => False) w).drewN _).alloc _) hgrow)
  have HR2 := Aside0.mk HR1
  clear hgrow HR1
  refine RP.norm (a' := ?_) ?_ ?_
  rotate_left
  · simp only [Act.put, List.setIfInBounds_toArray, List.set_cons_zero, List.set_cons_succ, i64_w, i32_w]
    rfl
  repeat (refine RP.pure (v := ?_) (a' := ?_) rfl rfl (Or.inl ⟨by rfl, ?_⟩) ?_ ?_; rotate_left; (focus (intro w'; go_simp; with_reducible rfl)); rotate_left; (focus (simp only [Act.put, List.setIfInBounds_toArray, List.set_cons_zero, List.set_cons_succ, i64_w, i32_w]; rfl)))
  refine RP.last rfl rfl (fun K hK => ?_)
  go_simp
  refine hK.out _ _ (RP.nil ?_)
  clear hK K
  go_wp2
  go_ret
  refine ⟨rfl, ?_, Chg.set (S := fun k => k = t) (p := ⟨t, m * 2 + 1, none⟩) (hg2.out.mono (fun _ h => h.elim)) (.inl rfl) _⟩
  rw [← HG.out]
  exact (HT.out.chg hg2.out (fun h => h) (fun _ _ h => h)).setCodes HO.out hm HR2.out
set_option maxHeartbeats 2000000 in
theorem put_not (ok : Nat → Prop) (t m : Nat) (hm : m < 6) (T : Tb) (seq code r : Int) (w : World) (hT : TabAt ok w t T) (hF : ∀ m, m < 6 → Fine (T m))
    (h : code < 0 ∧ r = 2 ∨ 63 < code ∧ r = 2 ∨ (¬ code < 0 ∧ ¬ 63 < code ∧ 1 ≤ seq ∧ seq < nextOf (T m) ∧ r = 9) ∨ (¬ code < 0 ∧ ¬ 63 < code ∧ ¬ (1 ≤ seq ∧ seq < nextOf (T m)) ∧ seq ≠ nextOf (T m) ∧ r = 3) ∨ (¬ code < 0 ∧ ¬ 63 < code ∧ seq = nextOf (T m) ∧ 32 ≤ ((T m).codes.length : Int) ∧ r = 10)) :
    Calls Try.prog 13 #[.pointer (some ⟨t, 0, none⟩), .int .i64 (m : Int), .int .i64 seq, .int .i64 code] w fun e w' => e = .returned (.int .i64 r) ∧ ∃ k, w' = w.drewN k := by
  obtain ⟨hc0, ⟨A, c, hc1, hlc, -⟩, -⟩ := hT.cells hm
  have hf := hF m hm
  have hf0 := hf.1
  have hf1 := hf.2.1
  unfold nextOf at h
  clear hT hF hf
  generalize (T m).got = g at *
  generalize (T m).codes = l at *
  have hl0 : 0 ≤ (l.length : Int) := by omega
  rcases h with ⟨h1, rfl⟩ | ⟨h1, rfl⟩ | ⟨h1, h2, h3, h4, rfl⟩ | ⟨h1, h2, h3, h4, rfl⟩ | ⟨h1, h2, rfl, h4, rfl⟩
  case' inr.inr.inr.inl => by_cases h5 : 1 ≤ seq
  all_goals
    go_enter Try.func13, Try.ntmps13
    go_wp2_with (first | (go_at_call 26; refine (find_ok t m hm _).mono ?_; rintro e w' ⟨rfl, rfl⟩) | (go_at_call 27; refine (next_calls t (m * 2) g A _ c _ hf0 hf1 (by exact hc0) (by exact hc1)).mono ?_; rintro e w' ⟨rfl, k, rfl⟩))
  all_goals go_ret
  all_goals exact ⟨rfl, by first | exact ⟨_, rfl⟩ | exact ⟨0, rfl⟩⟩

theorem Put_calls (ok : Nat → Prop) (t : Nat) (T : Tb) (n seq code : Int) (w : World) (hT : TabAt ok w t T) (hF : ∀ m, m < 6 → Fine (T m)) (hok : ∀ k, ok k → k ≠ t) (hnew : ∀ k, w.heap.size ≤ k → ok k) :
    Calls Try.prog 13 #[.pointer (some ⟨t, 0, none⟩), .int .i64 n, .int .i64 seq, .int .i64 code] w fun e w' => e = .returned (.int .i64 (dPut T n seq code).1) ∧ TabAt ok w' t (dPut T n seq code).2 ∧ Chg (fun k => k = t) w w' := by
  have quiet : ∀ {r : Int} {n : Int}, (Calls Try.prog 13 #[.pointer (some ⟨t, 0, none⟩), .int .i64 n, .int .i64 seq, .int .i64 code] w fun e w' => e = .returned (.int .i64 r) ∧ ∃ k, w' = w.drewN k) →
      Calls Try.prog 13 #[.pointer (some ⟨t, 0, none⟩), .int .i64 n, .int .i64 seq, .int .i64 code] w fun e w' => e = .returned (.int .i64 r) ∧ TabAt ok w' t T ∧ Chg (fun k => k = t) w w' := by
    intro r n h
    refine h.mono fun e w' he => ?_
    obtain ⟨he, k, rfl⟩ := he
    have hc := (Chg.refl (fun k : Nat => False) w).drewN k
    exact ⟨he, hT.chg hc (fun h => h) (fun _ _ h => h), hc.mono (fun _ h => h.elim)⟩
  by_cases hn : isC n
  · obtain ⟨m, hm, rfl⟩ := isC_nat hn
    unfold dPut
    rw [if_pos hn, Int.toNat_natCast]
    by_cases h1 : code < 0 ∨ 63 < code
    · rw [if_pos h1]
      exact quiet (put_not ok t m hm T seq code 2 w hT hF (by omega))
    · rw [if_neg h1]
      by_cases h2 : 1 ≤ seq ∧ seq < nextOf (T m)
      · rw [if_pos h2]
        exact quiet (put_not ok t m hm T seq code 9 w hT hF (by omega))
      · rw [if_neg h2]
        by_cases h3 : seq ≠ nextOf (T m)
        · rw [if_pos h3]
          exact quiet (put_not ok t m hm T seq code 3 w hT hF (by omega))
        · rw [if_neg h3]
          have h3 : seq = nextOf (T m) := by omega
          by_cases h4 : 32 ≤ ((T m).codes.length : Int)
          · rw [if_pos h4]
            exact quiet (put_not ok t m hm T seq code 10 w hT hF (by omega))
          · rw [if_neg h4]
            subst h3
            exact put_last ok t m hm T code w hT hF hok hnew (by omega) (by omega) (by omega)
  · have e : dPut T n seq code = (14, T) := if_neg hn
    rw [e]
    refine quiet ?_
    have hn := not_isC hn
    clear e quiet hT hF hok hnew
    go_enter Try.func13, Try.ntmps13
    go_wp2_with (go_at_call 26; refine (find_bad t n hn _).mono ?_; rintro e w' ⟨rfl, rfl⟩)
    go_ret
    exact ⟨rfl, 0, rfl⟩

end Go.Proofs.Ytfmlamnkpoloaaa.Q
