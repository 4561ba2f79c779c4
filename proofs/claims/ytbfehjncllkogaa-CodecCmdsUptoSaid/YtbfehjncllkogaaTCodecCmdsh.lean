/- Texts of this session laid together (shrink.py): what the claim's law rests on. -/
import Derived.Below
import Derived.Deep.Draws
import Derived.Deep.AppendLies
import Derived.Maps.AppendAt
import Derived.OwnWalk
import Derived.Laws.BytesArg
import Derived.Laws.MakeOwn
import Derived.Laws.OwnMore
import Derived.Deep.OwnRows
import Derived.Tactics
import Derived.Lib.ConvBytes
import Derived.Laws.Slices
import Derived.WalkKit
import Derived.KernelRfl
import Derived.RowKit3
import Derived.Deep.LoopGhost
import Derived.Deep.QuietTactic
import Derived.BigQuiet
import Derived.WideLaws
import Derived.Deep.DeepCutAuto
import Derived.Deep.CutBlock
import Derived.Deep.RegionHeld3
import Derived.Laws.Rows
import Derived.Lib.AppendStr
import Derived.ArgAppend
import Derived.Laws.IdiomCopy
import Derived.RowKit
import Derived.OrdersHeld
import Derived.Laws.BitsLemmas
import Derived.Laws.StructEq
import Derived.Test.YtbfehjncllkogaaProg
import Derived.WalkMore
import Derived.Lib.Strings
import Derived.Outline
import Derived.ChangeArms
import Derived.Deep.Slices
import Derived.SizedLaws
import Derived.Test.YtbfehjncllkogaaRows
import Derived.Test.YtbfehjncllkogaaTCodecCmdsg
set_option linter.unusedVariables false
set_option linter.unusedSimpArgs false
set_option maxRecDepth 100000
set_option maxHeartbeats 8000000
namespace Go.Proofs.Ytbfehjncllkogaa.Q
open Go.RowKit Go.Proofs.YtbfehjncllkogaaW.PrintWords Go.Proofs.YtbfehjncllkogaaW.PrintLast Go.Proofs.YtbfehjncllkogaaW.PrintMore
theorem bytesOf_append (a b : ByteArray) : bytesOf (a ++ b) = bytesOf a ++ bytesOf b := by
 rw [bytesOf_bl, bytesOf_bl, bytesOf_bl, bl_append, List.map_append]
theorem bytesOf_nil : bytesOf (⟨#[]⟩ : ByteArray) = [] := rfl
theorem nil_app (a : ByteArray) : (⟨#[]⟩ : ByteArray) ++ a = a := bl_inj (by rw [bl_append]; rfl)
def catB {α : Type} (B : α → ByteArray) (l : List α) : ByteArray := catP (fun x => (B x, (0 : Int))) l
def listB {α : Type} (B : α → ByteArray) (l : List α) : ByteArray := numB (l.length : Int) ++ catB B l
def numsB (l : List Int) : ByteArray := catB numB l
def textR (s : ByteArray) : ByteArray := numB (s.size : Int) ++ s
theorem catB_nil {α : Type} (B : α → ByteArray) : catB B [] = ⟨#[]⟩ := rfl
theorem catB_cons {α : Type} (B : α → ByteArray) (x : α) (l : List α) : catB B (x :: l) = B x ++ catB B l := rfl
theorem catB_size {α : Type} (B : α → ByteArray) (M : Nat) (l : List α) (h : ∀ x ∈ l, (B x).size ≤ M) : (catB B l).size ≤ M * l.length := catP_size _ M l h
theorem numsB_size (l : List Int) : (numsB l).size ≤ 10 * l.length := catB_size numB 10 l (fun x _ => numB_size x)
theorem numsB_two (a b : Int) : numsB [a, b] = numB a ++ numB b := by
 unfold numsB
 rw [catB_cons, catB_cons, catB_nil, app_nil]
theorem numsB_one (a : Int) : numsB [a] = numB a := by
 unfold numsB
 rw [catB_cons, catB_nil, app_nil]
theorem listInts_size (l : List Int) : (listB numB l).size ≤ 10 + 10 * l.length := by
 have h1 := numB_size (l.length : Int)
 have h2 := catB_size numB 10 l (fun x _ => numB_size x)
 unfold listB
 rw [size_app]
 omega
theorem textR_size (s : ByteArray) : (textR s).size ≤ 10 + s.size := by
 have := numB_size (s.size : Int)
 unfold textR
 rw [size_app]
 omega
theorem numbersP_le (l : List Int) : (numbersP l).1.size ≤ 10000000 := by
 by_cases h : 256 < l.length
 ·unfold numbersP
  rw [if_pos h]
  exact Nat.zero_le _
 ·exact numbersP_size l (by
   unfold numbersP
   rw [if_neg h, listP_all _ _ _ (fun _ _ => rfl)])
theorem numbersP_short (l : List Int) (h : l.length ≤ 256) : numbersP l = (listB numB l, 0) := by
 unfold numbersP
 rw [if_neg (by omega), listP_all _ _ _ (fun _ _ => rfl)]
 rfl
theorem textP_short (s : ByteArray) (h : s.size ≤ 4096) : textP s = (textR s, 0) := by
 unfold textP
 rw [if_neg (by omega)]
 rfl
theorem number_l0 (l : List Int) (h : ∀ n ∈ l, (Lit.int .i64 n).wf = true) (hl : l.length ≤ 1048576) (d : Nat) : ∀ (k i : Nat) (acc : ByteArray), i + d = l.length → d + 1 ≤ k → acc.size + 10 * d < 140737488355328 →
  codec_number.l0 k (bytesOf acc) l (l.length : Int) (i : Int) = some (bytesOf (acc ++ numsB (l.drop i))) := by
 induction d with
 | zero =>
  intro k i acc hi hk ha
  obtain ⟨k, rfl⟩ : ∃ m, k = m + 1 := ⟨k - 1, by omega⟩
  rw [codec_number.l0, if_neg (by omega), List.drop_of_length_le (by omega), numsB, catB_nil, app_nil]
 | succ d ih =>
  intro k i acc hi hk ha
  obtain ⟨k, rfl⟩ : ∃ m, k = m + 1 := ⟨k - 1, by omega⟩
  have hlt : i < l.length := by omega
  have hb := i64_of (h _ (List.getElem_mem hlt))
  have hs := numB_size l[i]
  rw [codec_number.l0, if_pos (by omega), if_pos (by omega), if_pos (by omega), rd_at l i hlt, bind_of (number_some _ hb.1 hb.2), if_pos (by rw [bytesOf_length]; omega), wrap_up (by omega) (by omega), List.drop_eq_getElem_cons hlt, ← bytesOf_append]
  have := ih k (i + 1) (acc ++ numB l[i]) (by omega) (by omega) (by rw [size_app]; omega)
  rw [app_assoc] at this
  exact this
theorem codecnumber_some (l : List Int) (h : ∀ n ∈ l, (Lit.int .i64 n).wf = true) (hl : l.length ≤ 1048576) (acc : ByteArray) (ha : acc.size + 10 * l.length < 140737488355328) (k : Nat) (hk : l.length + 1 ≤ k) :
  codec_number.f k (bytesOf acc) l = some (bytesOf (acc ++ numsB l)) := by
 unfold codec_number.f
 exact number_l0 l h hl l.length k 0 acc (by omega) hk ha
theorem wf_two {a b : Int} (ha : (Lit.int .i64 a).wf = true) (hb : (Lit.int .i64 b).wf = true) : ∀ n ∈ [a, b], (Lit.int .i64 n).wf = true := by
 intro n hn
 rcases List.mem_cons.1 hn with rfl | hn
 ·exact ha
 ·rcases List.mem_cons.1 hn with rfl | hn
  ·exact hb
  ·cases hn
theorem wf_one {a : Int} (ha : (Lit.int .i64 a).wf = true) : ∀ n ∈ [a], (Lit.int .i64 n).wf = true := by
 intro n hn
 rcases List.mem_cons.1 hn with rfl | hn
 ·exact ha
 ·cases hn
theorem number_two (a b : Int) (ha : (Lit.int .i64 a).wf = true) (hb : (Lit.int .i64 b).wf = true) (acc : ByteArray) (hacc : acc.size + 20 < 140737488355328) (k : Nat) (hk : 3 ≤ k) :
  codec_number.f k (bytesOf acc) [a, b] = some (bytesOf (acc ++ (numB a ++ numB b))) := by
 rw [codecnumber_some [a, b] (wf_two ha hb) (by simp) acc (by simp; omega) k (by simp; omega), numsB_two]
theorem number_one (a : Int) (ha : (Lit.int .i64 a).wf = true) (acc : ByteArray) (hacc : acc.size + 20 < 140737488355328) (k : Nat) (hk : 3 ≤ k) :
  codec_number.f k (bytesOf acc) [a] = some (bytesOf (acc ++ numB a)) := by
 rw [codecnumber_some [a] (wf_one ha) (by simp) acc (by simp; omega) k (by simp; omega), numsB_one]
theorem codectext_some (s : ByteArray) (hs : s.size ≤ 140737488351232) (acc : ByteArray) (ha : acc.size + 4106 < 140737488355328) : codec_text.f (bytesOf acc) s = some (bytesOf (acc ++ (textP s).1)) := by
 have := textP_size s
 unfold codec_text.f
 rw [bind_of (text_some s hs), if_pos (by rw [bytesOf_length]; omega), ← bytesOf_append]
theorem codecnumbers_some (l : List Int) (h : ∀ n ∈ l, (Lit.int .i64 n).wf = true) (acc : ByteArray) (ha : acc.size + 10000000 < 140737488355328) : codec_numbers.f (bytesOf acc) l = some (bytesOf (acc ++ (numbersP l).1)) := by
 have := numbersP_le l
 unfold codec_numbers.f
 rw [bind_of (numbers_some l h), if_pos (by rw [bytesOf_length]; omega), ← bytesOf_append]
def laidP (b : Bool) (y : ByteArray) : ByteArray × Int := if b = true then (y, 0) else (⟨#[]⟩, 2)
theorem laid_some (b : Bool) (y : ByteArray) : codec_laid.f b (bytesOf y) = some (laidP b y) := by
 unfold codec_laid.f laidP
 cases b with
 | true => rw [if_pos rfl, if_pos rfl, strOfNums_bytesOf]
 | false => rw [if_neg (by decide), if_neg (by decide)]
theorem foldO_laid {α : Type} (T : List Int → α → Option (List Int)) (B : α → ByteArray) (M : Nat) (l : List α) : ∀ acc : ByteArray, (∀ x ∈ l, (B x).size ≤ M) → (∀ x ∈ l, ∀ a : ByteArray, a.size + M < 140737488355328 → T (bytesOf a) x = some (bytesOf (a ++ B x))) → acc.size + M * l.length < 140737488355328 →
  foldO T l (bytesOf acc) = some (bytesOf (acc ++ catB B l)) := by
 induction l with
 | nil => intro acc _ _ _; rw [catB_nil, app_nil]; rfl
 | cons x l ih =>
  intro acc hM hT ha
  rw [List.length_cons, Nat.mul_succ] at ha
  have h1 := hM x List.mem_cons_self
  rw [foldO, bind_of (hT x List.mem_cons_self acc (by omega)), ih (acc ++ B x) (fun y hy => hM y (List.mem_cons_of_mem _ hy)) (fun y hy => hT y (List.mem_cons_of_mem _ hy)) (by rw [size_app]; omega), catB_cons, app_assoc]
theorem ten_l0 (l : List Int) (h : ∀ n ∈ l, (Lit.int .i64 n).wf = true) (hl : l.length ≤ 1048576) (d : Nat) : ∀ (k i : Nat) (acc : ByteArray), i + d = l.length → d + 20 ≤ k → acc.size ≤ 10 * i →
  surmiseref10_Numbers.l0 k l acc (i : Int) = some (acc ++ numsB (l.drop i)) := by
 induction d with
 | zero =>
  intro k i acc hi hk ha
  obtain ⟨k, rfl⟩ : ∃ m, k = m + 1 := ⟨k - 1, by omega⟩
  rw [surmiseref10_Numbers.l0, if_neg (by omega), List.drop_of_length_le (by omega), numsB, catB_nil, app_nil]
 | succ d ih =>
  intro k i acc hi hk ha
  obtain ⟨k, rfl⟩ : ∃ m, k = m + 1 := ⟨k - 1, by omega⟩
  have hlt : i < l.length := by omega
  have hb := i64_of (h _ (List.getElem_mem hlt))
  have hs := numB_size l[i]
  rw [surmiseref10_Numbers.l0, if_pos (by omega), if_pos (by omega), rd_at l i hlt, bind_of (refnumber_some _ hb.1 hb.2 k (by omega)), if_pos (by omega), wrap_up (by omega) (by omega), List.drop_eq_getElem_cons hlt]
  have := ih k (i + 1) (acc ++ numB l[i]) (by omega) (by omega) (by rw [size_app]; omega)
  rw [app_assoc] at this
  exact this
theorem tennumbers_some (l : List Int) (h : ∀ n ∈ l, (Lit.int .i64 n).wf = true) (hl : l.length ≤ 1048576) (k : Nat) (hk : l.length + 20 ≤ k) : surmiseref10_Numbers.f k l = some (numsB l) := by
 unfold surmiseref10_Numbers.f
 have := ten_l0 l h hl l.length k 0 ⟨#[]⟩ (by omega) hk (Nat.le_refl _)
 rw [List.drop_zero, nil_app] at this
 exact this
theorem tentwo (a b : Int) (ha : (Lit.int .i64 a).wf = true) (hb : (Lit.int .i64 b).wf = true) (k : Nat) (hk : 30 ≤ k) : surmiseref10_Numbers.f k [a, b] = some (numB a ++ numB b) := by
 rw [tennumbers_some [a, b] (wf_two ha hb) (by simp) k (by simp; omega), numsB_two]
theorem tenlist_some (l : List Int) (h : ∀ n ∈ l, (Lit.int .i64 n).wf = true) (hl : l.length ≤ 1048576) (k : Nat) (hk : l.length + 20 ≤ k) : surmiseref10_list.f k l = some (listB numB l) := by
 have h1 := numB_size (l.length : Int)
 have h2 := numsB_size l
 unfold surmiseref10_list.f
 rw [bind_of (refnumber_some _ (by omega) (by omega) k (by omega)), bind_of (tennumbers_some l h hl k hk), if_pos (by omega)]
 rfl
theorem tentext_some (s : ByteArray) (hs : s.size ≤ 140737488351232) (k : Nat) (hk : 20 ≤ k) : surmiseref10_Text.f k s = some (textR s) := by
 have h1 := numB_size (s.size : Int)
 unfold surmiseref10_Text.f
 rw [bind_of (refnumber_some _ (by omega) (by omega) k (by omega)), if_pos (by omega)]
 rfl
theorem lawlaid_true (b : Bool) (y : ByteArray) : surmiselaw10_laid.f (laidP b y).1 (laidP b y).2 b y = some true := by
 unfold surmiselaw10_laid.f laidP
 cases b with
 | true => rw [if_pos rfl, if_pos rfl, if_pos rfl]; rfl
 | false =>
  simp only [Bool.false_eq_true, if_false]
  rw [if_pos (by decide +kernel)]
  rfl
def Took (s : ByteArray) (a e : Int) (x : ByteArray) (r : Int × Int) : Prop := r.2 = 0 → e = 0 ∧ 0 ≤ a ∧ a < r.1 ∧ r.1 ≤ (s.size : Int) ∧ x = s.extract a.toNat r.1.toNat
theorem Took.next {s : ByteArray} {a e : Int} {x y : ByteArray} {r q : Int × Int} (h1 : Took s a e x r) (h2 : Took s r.1 r.2 y q) : Took s a e (x ++ y) q := by
 intro h
 obtain ⟨b1, b2, b3, b4, b5⟩ := h2 h
 obtain ⟨a1, a2, a3, a4, a5⟩ := h1 b1
 refine ⟨a1, a2, by omega, b4, ?_⟩
 rw [a5, b5]
 exact cut_join s a.toNat r.1.toNat q.1.toNat (by omega) (by omega) (by omega)
theorem wiB_iff (n a b : Int) : wiB n a b = true ↔ a ≤ n ∧ n ≤ b := by
 unfold wiB
 exact decide_eq_true_iff
def evY (x : S81) : ByteArray := numB x.f0 ++ listB numB x.f1
theorem laidP_same {b : Bool} {y z : ByteArray} (h : b = true → y = z) : laidP b y = laidP b z := by
 cases b with
 | true => rw [h rfl]
 | false => rfl
theorem catB_congr {α : Type} {B C : α → ByteArray} (l : List α) (h : ∀ x ∈ l, B x = C x) : catB B l = catB C l := by
 induction l with
 | nil => rfl
 | cons x l ih => rw [catB_cons, catB_cons, h x List.mem_cons_self, ih (fun y hy => h y (List.mem_cons_of_mem _ hy))]
theorem stream_le {s : ByteArray} (h : streamB s = true) : s.size ≤ 32 := by
 unfold streamB at h
 rw [Bool.and_eq_true, decide_eq_true_eq] at h
 exact h.1
theorem wi_wf {n a b : Int} (h : wiB n a b = true) (ha : -9223372036854775808 ≤ a) (hb : b ≤ 9223372036854775807) : (Lit.int .i64 n).wf = true := by
 have := (wiB_iff _ _ _).1 h
 exact wf_i64 n (by omega) (by omega)
theorem val_wf {l : List Int} {m : Int} (h : valB l m = true) : (∀ n ∈ l, (Lit.int .i64 n).wf = true) ∧ (l.length : Int) ≤ m := by
 unfold valB at h
 rw [Bool.and_eq_true, decide_eq_true_eq, List.all_eq_true] at h
 exact ⟨fun n hn => wi_wf (h.1 n hn) (by decide) (by decide), h.2⟩
theorem head_wf {c s : Int} {st : ByteArray} (h : headB c s st = true) : (Lit.int .i64 c).wf = true ∧ (Lit.int .i64 s).wf = true ∧ st.size ≤ 32 := by
 unfold headB at h
 rw [Bool.and_eq_true, Bool.and_eq_true] at h
 exact ⟨wi_wf h.1 (by decide) (by decide), wi_wf h.2.1 (by decide) (by decide), stream_le h.2.2⟩
def intsOK (l : List Int) : Prop := l.length ≤ 1048576 ∧ ∀ n ∈ l, (Lit.int .i64 n).wf = true
theorem val_ok {l : List Int} {m : Int} (h : valB l m = true) (hm : m ≤ 256) : intsOK l ∧ l.length ≤ 256 := by
 have := val_wf h
 exact ⟨⟨by omega, this.1⟩, by omega⟩
theorem cmd_wf {c s : Int} {st : ByteArray} {r : Int} {l : List Int} {x : Int} (h : cmdB c s st r l x = true) : (Lit.int .i64 c).wf = true ∧ (Lit.int .i64 s).wf = true ∧ st.size ≤ 32 ∧ (Lit.int .i64 r).wf = true ∧ intsOK l ∧ l.length ≤ 256 ∧ (Lit.int .i64 x).wf = true := by
 unfold cmdB at h
 rw [Bool.and_eq_true, Bool.and_eq_true, Bool.and_eq_true] at h
 have h1 := head_wf h.1
 have h2 := val_ok h.2.2.1 (by decide)
 exact ⟨h1.1, h1.2.1, h1.2.2, wi_wf h.2.1 (by decide) (by decide), h2.1, h2.2, wi_wf h.2.2.2 (by decide) (by decide)⟩
def evOK (x : S81) : Prop := (Lit.int .i64 x.f0).wf = true ∧ intsOK x.f1
theorem ev_wf {x : S81} (h : evB x = true) : evOK x ∧ x.f1.length ≤ 256 := by
 unfold evB at h
 rw [Bool.and_eq_true] at h
 have h2 := val_ok h.2 (by decide)
 exact ⟨⟨wi_wf h.1 (by decide) (by decide), h2.1⟩, h2.2⟩
theorem evs_wf {l : List S81} (h : evsB l = true) : l.length ≤ 3 ∧ ∀ x ∈ l, evOK x ∧ x.f1.length ≤ 256 := by
 unfold evsB at h
 rw [Bool.and_eq_true, decide_eq_true_eq, List.all_eq_true] at h
 exact ⟨by omega, fun x hx => ev_wf (h.1 x hx)⟩
theorem rec_wf {c s : Int} {st : ByteArray} {r : Int} {l : List S81} (h : recB c s st r l = true) : (Lit.int .i64 c).wf = true ∧ (Lit.int .i64 s).wf = true ∧ st.size ≤ 32 ∧ (Lit.int .i64 r).wf = true ∧ l.length ≤ 3 ∧ ∀ x ∈ l, evOK x ∧ x.f1.length ≤ 256 := by
 unfold recB at h
 rw [Bool.and_eq_true, Bool.and_eq_true, Bool.and_eq_true] at h
 have h1 := head_wf h.1
 have h2 := evs_wf h.2.2.1
 exact ⟨h1.1, h1.2.1, h1.2.2, wi_wf h.2.1 (by decide) (by decide), h2.1, h2.2⟩
def cmdY (c s : Int) (st : ByteArray) (r : Int) (l : List Int) (x : Int) : ByteArray := ((((numB c ++ numB s) ++ textR st) ++ numB r) ++ listB numB l) ++ numB x
theorem putcmd_some (c s : Int) (st : ByteArray) (r : Int) (l : List Int) (x : Int) (h1 : (Lit.int .i64 c).wf = true) (h2 : (Lit.int .i64 s).wf = true) (h3 : st.size ≤ 140737488351232) (h4 : (Lit.int .i64 r).wf = true) (h5 : intsOK l) (h6 : (Lit.int .i64 x).wf = true) (k : Nat) (hk : 3000000 ≤ k) :
  codec_PutCmd.f k c s st r l x = some (laidP (cmdB c s st r l x) (cmdY c s st r l x)) := by
 have b1 := numB_size c
 have b2 := numB_size s
 have b3 := textP_size st
 have b4 := numB_size r
 have b5 := numbersP_le l
 have e1 := number_two c s h1 h2 ⟨#[]⟩ (by decide) k (by omega)
 rw [bytesOf_nil, nil_app] at e1
 unfold codec_PutCmd.f
 rw [bind_of e1, bind_of (codectext_some st h3 _ (by simp only [size_app]; omega)), bind_of (number_one r h4 _ (by simp only [size_app]; omega) k (by omega)), bind_of (codecnumbers_some l h5.2 _ (by simp only [size_app]; omega)), bind_of (cmd_some c s st r l x (by have := h5.1; omega) k (by have := h5.1; omega)), bind_of (number_one x h6 _ (by simp only [size_app]; omega) k (by omega)), bind_of (laid_some _ _)]
 refine congrArg some (laidP_same fun hb => ?_)
 obtain ⟨_, _, g3, _, _, g6, _⟩ := cmd_wf hb
 rw [textP_short st (by omega), numbersP_short l g6]
 rfl
theorem laycmd_some (c s : Int) (st : ByteArray) (r : Int) (l : List Int) (x : Int) (h1 : (Lit.int .i64 c).wf = true) (h2 : (Lit.int .i64 s).wf = true) (h3 : st.size ≤ 140737488351232) (h4 : (Lit.int .i64 r).wf = true) (h5 : intsOK l) (h6 : (Lit.int .i64 x).wf = true) (k : Nat) (hk : 3000000 ≤ k) :
  surmiseref10_LayCmd.f k c s st r l x = some (cmdY c s st r l x) := by
 have b1 := numB_size c
 have b2 := numB_size s
 have b3 := textR_size st
 have b4 := numB_size r
 have b5 := listInts_size l
 have b6 := numB_size x
 have b7 := h5.1
 have i4 := i64_of h4
 have i6 := i64_of h6
 unfold surmiseref10_LayCmd.f
 rw [bind_of (tentwo c s h1 h2 k (by omega)), bind_of (tentext_some st h3 k (by omega)), if_pos (by simp only [size_app]; omega), bind_of (refnumber_some r i4.1 i4.2 k (by omega)), if_pos (by simp only [size_app]; omega), bind_of (tenlist_some l h5.2 h5.1 k (by omega)), if_pos (by simp only [size_app]; omega), bind_of (refnumber_some x i6.1 i6.2 k (by omega)), if_pos (by simp only [size_app]; omega)]
 rfl
def evZ (x : S81) : ByteArray := numB x.f0 ++ (numbersP x.f1).1
theorem evZ_size (x : S81) : (evZ x).size ≤ 10000010 := by
 have h1 := numB_size x.f0
 have h2 := numbersP_le x.f1
 unfold evZ
 rw [size_app]
 omega
theorem putevent_some (x : S81) (h : evOK x) (a : ByteArray) (ha : a.size + 10000030 < 140737488355328) (k : Nat) (hk : 3 ≤ k) : codec_putEvent.f k (bytesOf a) x.f0 x.f1 = some (bytesOf (a ++ evZ x)) := by
 have h1 := numB_size x.f0
 unfold codec_putEvent.f
 rw [bind_of (number_one x.f0 h.1 a (by omega) k hk), bind_of (codecnumbers_some x.f1 h.2.2 _ (by rw [size_app]; omega)), app_assoc]
 rfl
theorem putlist_events (l : List S81) (hl : l.length ≤ 1048576) (h : ∀ x ∈ l, evOK x) (a : ByteArray) (ha : a.size ≤ 100000000) (k : Nat) (hk : 3000000 ≤ k) : api_Event__by_codec_putEvent.f k (bytesOf a) l = some (bytesOf (a ++ listB evZ l)) := by
 have h1 := numB_size (l.length : Int)
 unfold api_Event__by_codec_putEvent.f
 rw [bind_of (number_one (l.length : Int) (wf_i64 _ (by omega) (by omega)) a (by omega) k (by omega)), foldO_laid _ evZ 10000030 l _ (fun x _ => Nat.le_trans (evZ_size x) (by decide)) (fun x hx b hb => putevent_some x (h x hx) b hb k (by omega)) (by rw [size_app]; omega), app_assoc]
 rfl
theorem evZ_right (l : List S81) (h : evsB l = true) : listB evZ l = listB evY l := by
 unfold listB
 rw [catB_congr l (fun x hx => ?_)]
 unfold evZ evY
 rw [numbersP_short x.f1 ((evs_wf h).2 x hx).2]
theorem evsz {l : List S81} (h : ∀ x ∈ l, evOK x) : ∀ x ∈ l, x.f1.length + 1 ≤ 1048577 ∧ x.f1.length < 9223372036854775807 := fun x hx => by
 have := (h x hx).2.1
 omega
theorem putevents_some (l : List S81) (hl : l.length ≤ 1048576) (h : ∀ x ∈ l, evOK x) (k : Nat) (hk : 3000000 ≤ k) : codec_PutEvents.f k l = some (laidP (evsB l) (listB evY l)) := by
 have e1 := putlist_events l hl h ⟨#[]⟩ (by decide) k hk
 rw [bytesOf_nil, nil_app] at e1
 unfold codec_PutEvents.f
 rw [bind_of (events_some l (by omega) 1048577 (evsz h) k (by omega)), bind_of e1, bind_of (laid_some _ _)]
 exact congrArg some (laidP_same fun hb => evZ_right l hb)
def recY (c s : Int) (st : ByteArray) (r : Int) (l : List S81) : ByteArray := (((numB c ++ numB s) ++ textR st) ++ numB r) ++ listB evY l
theorem putrecord_some (c s : Int) (st : ByteArray) (r : Int) (l : List S81) (h1 : (Lit.int .i64 c).wf = true) (h2 : (Lit.int .i64 s).wf = true) (h3 : st.size ≤ 140737488351232) (h4 : (Lit.int .i64 r).wf = true) (hl : l.length ≤ 1048576) (h : ∀ x ∈ l, evOK x) (k : Nat) (hk : 3000000 ≤ k) :
  codec_PutRecord.f k c s st r l = some (laidP (recB c s st r l) (recY c s st r l)) := by
 have b1 := numB_size c
 have b2 := numB_size s
 have b3 := textP_size st
 have b4 := numB_size r
 have e1 := number_two c s h1 h2 ⟨#[]⟩ (by decide) k (by omega)
 rw [bytesOf_nil, nil_app] at e1
 unfold codec_PutRecord.f
 rw [bind_of e1, bind_of (codectext_some st h3 _ (by simp only [size_app]; omega)), bind_of (number_one r h4 _ (by simp only [size_app]; omega) k (by omega)), bind_of (record_some c s st r l (by omega) 1048577 (evsz h) k (by omega)), bind_of (putlist_events l hl h _ (by simp only [size_app]; omega) k hk), bind_of (laid_some _ _)]
 refine congrArg some (laidP_same fun hb => ?_)
 obtain ⟨_, _, g3, _, _, _⟩ := rec_wf hb
 have he : evsB l = true := by
  unfold recB at hb
  rw [Bool.and_eq_true, Bool.and_eq_true, Bool.and_eq_true] at hb
  exact hb.2.2.1
 rw [textP_short st (by omega), evZ_right l he]
 rfl
theorem evY_size (x : S81) (h : evOK x) : (evY x).size ≤ 10485800 := by
 have h1 := numB_size x.f0
 have h2 := listInts_size x.f1
 have h3 := h.2.1
 unfold evY
 rw [size_app]
 omega
theorem layevents_l0 (l : List S81) (hl : l.length ≤ 1048576) (h : ∀ x ∈ l, evOK x) (M : Nat) (hM : 1048700 ≤ M) (d : Nat) : ∀ (k i : Nat) (acc : ByteArray), i + d = l.length → d + M ≤ k → acc.size + 10485900 * d ≤ 4611686018427387903 →
  surmiseref10_LayEvents.l0 k l acc (i : Int) = some (acc ++ catB evY (l.drop i)) := by
 induction d with
 | zero =>
  intro k i acc hi hk ha
  obtain ⟨k, rfl⟩ : ∃ m, k = m + 1 := ⟨k - 1, by omega⟩
  rw [surmiseref10_LayEvents.l0, if_neg (by omega), List.drop_of_length_le (by omega), catB_nil, app_nil]
 | succ d ih =>
  intro k i acc hi hk ha
  obtain ⟨k, rfl⟩ : ∃ m, k = m + 1 := ⟨k - 1, by omega⟩
  have hlt : i < l.length := by omega
  have hx := h _ (List.getElem_mem hlt)
  have hb := i64_of hx.1
  have s1 := numB_size l[i].f0
  have s2 := listInts_size l[i].f1
  have s3 := hx.2.1
  rw [surmiseref10_LayEvents.l0, if_pos (by omega), if_pos (by omega), rdE_at l i hlt, bind_of (refnumber_some _ hb.1 hb.2 k (by omega)), if_pos (by omega), bind_of (tenlist_some _ hx.2.2 hx.2.1 k (by omega)), if_pos (by simp only [size_app]; omega), wrap_up (by omega) (by omega), List.drop_eq_getElem_cons hlt, catB_cons]
  have := ih k (i + 1) ((acc ++ numB l[i].f0) ++ listB numB l[i].f1) (by omega) (by omega) (by simp only [size_app]; omega)
  refine Eq.trans this (congrArg some ?_)
  simp only [evY, app_assoc]
theorem layevents_some (l : List S81) (hl : l.length ≤ 1048576) (h : ∀ x ∈ l, evOK x) (k : Nat) (hk : 3000000 ≤ k) : surmiseref10_LayEvents.f k l = some (listB evY l) := by
 have h1 := numB_size (l.length : Int)
 unfold surmiseref10_LayEvents.f
 rw [bind_of (refnumber_some _ (by omega) (by omega) k (by omega))]
 have := layevents_l0 l hl h 1048700 (Nat.le_refl _) l.length k 0 (numB (l.length : Int)) (by omega) (by omega) (by omega)
 rw [List.drop_zero] at this
 exact this
theorem layrecord_some (c s : Int) (st : ByteArray) (r : Int) (l : List S81) (h1 : (Lit.int .i64 c).wf = true) (h2 : (Lit.int .i64 s).wf = true) (h3 : st.size ≤ 140737488351232) (h4 : (Lit.int .i64 r).wf = true) (hl : l.length ≤ 1048576) (h : ∀ x ∈ l, evOK x) (k : Nat) (hk : 3000000 ≤ k) :
  surmiseref10_LayRecord.f k c s st r l = some (recY c s st r l) := by
 have b1 := numB_size c
 have b2 := numB_size s
 have b3 := textR_size st
 have b4 := numB_size r
 have b5 : (listB evY l).size ≤ 10 + 10485800 * l.length := by
  have := numB_size (l.length : Int)
  have := catB_size evY 10485800 l (fun x hx => evY_size x (h x hx))
  unfold listB
  rw [size_app]
  omega
 have i4 := i64_of h4
 unfold surmiseref10_LayRecord.f
 rw [bind_of (tentwo c s h1 h2 k (by omega)), bind_of (tentext_some st h3 k (by omega)), if_pos (by simp only [size_app]; omega), bind_of (refnumber_some r i4.1 i4.2 k (by omega)), if_pos (by simp only [size_app]; omega), bind_of (layevents_some l hl h k hk), if_pos (by simp only [size_app]; omega)]
 rfl
theorem sum_len {α : Type} (f : α → Nat) (m : Nat) (l : List α) (h : ∀ x, m ≤ f x) : m * l.length ≤ (l.map f).sum := by
 induction l with
 | nil => exact Nat.zero_le _
 | cons x l ih =>
  rw [List.length_cons, Nat.mul_succ, List.map_cons, List.sum_cons]
  have := h x
  omega
theorem sum_mem {α : Type} (f : α → Nat) (l : List α) : ∀ x ∈ l, f x ≤ (l.map f).sum := by
 induction l with
 | nil => intro x hx; cases hx
 | cons y l ih =>
  intro x hx
  rw [List.map_cons, List.sum_cons]
  rcases List.mem_cons.1 hx with rfl | hx
  ·omega
  ·have := ih x hx
   omega
theorem ints_le (l : List Int) : l.length ≤ (l.map fun _ => 1).sum := by
 have := sum_len (fun _ : Int => 1) 1 l (fun _ => Nat.le_refl _)
 omega
def evM (x : S81) : Nat := 1 + ((x.f1.map fun _ => 1).sum + 1)
theorem ev_bound {l : List S81} {B : Nat} (h : (l.map evM).sum ≤ B) (hB : B ≤ 1048576) (hw : ∀ x ∈ l, (Lit.int .i64 x.f0).wf = true ∧ x.f1.length * 8 ≤ 140737488351232 ∧ x.f1.length ≤ 9223372036854775807 ∧ ∀ y ∈ x.f1, (Lit.int .i64 y).wf = true) : l.length ≤ 524288 ∧ ∀ x ∈ l, evOK x := by
 have h1 := sum_len evM 2 l (fun x => by unfold evM; omega)
 refine ⟨by omega, fun x hx => ⟨(hw x hx).1, ?_, (hw x hx).2.2.2⟩⟩
 have h2 : 1 + ((x.f1.map fun _ => 1).sum + 1) ≤ (l.map evM).sum := sum_mem evM l x hx
 have h3 := ints_le x.f1
 omega
theorem awake10_true (k : Nat) (hk : 60 ≤ k) : surmiselaw10_awake.f k = some true := by
 have h : surmiselaw10_awake.f 60 = some true := by decide +kernel
 exact at_rounds (fun k => surmiselaw10_awake.mono k) hk h
end Go.Proofs.Ytbfehjncllkogaa.Q
namespace Go.Proofs.Ytbfehjncllkogaa.Pure
open Go.RowKit Go.Proofs.Ytbfehjncllkogaa.Q Go.Proofs.YtbfehjncllkogaaW.PrintWords Go.Proofs.YtbfehjncllkogaaW.PrintLast
theorem CodecCmdsUpto (c s : Int) (st : ByteArray) (r : Int) (l : List Int) (x : Int) (c2 s2 : Int) (st2 : ByteArray) (r2 : Int) (es : List S81) (h1 : (Lit.int .i64 c).wf = true) (h2 : (Lit.int .i64 s).wf = true) (h3 : st.size ≤ 140737488351232) (h4 : (Lit.int .i64 r).wf = true) (h5 : l.length * 8 ≤ 140737488351232 ∧ l.length ≤ 9223372036854775807 ∧ ∀ y ∈ l, (Lit.int .i64 y).wf = true) (h6 : (Lit.int .i64 x).wf = true)
  (g1 : (Lit.int .i64 c2).wf = true) (g2 : (Lit.int .i64 s2).wf = true) (g3 : st2.size ≤ 140737488351232) (g4 : (Lit.int .i64 r2).wf = true) (g5 : es.length * 32 ≤ 140737488351232 ∧ es.length ≤ 9223372036854775807 ∧ ∀ x ∈ es, (Lit.int .i64 x.f0).wf = true ∧ x.f1.length * 8 ≤ 140737488351232 ∧ x.f1.length ≤ 9223372036854775807 ∧ ∀ y ∈ x.f1, (Lit.int .i64 y).wf = true)
  (hB0 : 1 + (1 + ((st.size + 1) + (1 + (((l.map fun _ => 1).sum + 1) + 1)))) ≤ 1048576) (hB1 : 1 + (1 + ((st2.size + 1) + (1 + ((es.map fun x => 1 + ((x.f1.map fun _ => 1).sum + 1)).sum + 1)))) ≤ 1048576) :
  ∃ k, surmiselaw10_CodecCmds.f k c s st r l x c2 s2 st2 r2 es = some true := by
 obtain ⟨k, hk⟩ : ∃ k, k = 3000000 := ⟨_, rfl⟩
 have hi : intsOK l := ⟨by have := ints_le l; omega, h5.2.2⟩
 have he := ev_bound (l := es) (B := 1048576) (by
  have : (es.map evM).sum ≤ 1048576 := by
   change (es.map fun x => 1 + ((x.f1.map fun _ => 1).sum + 1)).sum ≤ 1048576
   omega
  exact this) (Nat.le_refl _) g5.2.2
 refine ⟨k + 1, ?_⟩
 have hbad : ∀ a1 a2 a3 a4 a5 a6, surmiselaw10_CodecCmds.j0 (k + 1) a1 a2 a3 a4 a5 a6 true c s st r l x c2 s2 st2 r2 es = some true := by
  intro a1 a2 a3 a4 a5 a6
  rw [surmiselaw10_CodecCmds.j0, if_pos rfl, bind_of (awake10_true k (by omega))]
 have hi0 := hi.1
 have hgood : surmiselaw10_CodecCmds.j0 (k + 1) (laidP (cmdB c s st r l x) (cmdY c s st r l x)).1 (laidP (cmdB c s st r l x) (cmdY c s st r l x)).2 (laidP (recB c2 s2 st2 r2 es) (recY c2 s2 st2 r2 es)).1 (laidP (recB c2 s2 st2 r2 es) (recY c2 s2 st2 r2 es)).2 (laidP (evsB es) (listB evY es)).1 (laidP (evsB es) (listB evY es)).2 false c s st r l x c2 s2 st2 r2 es = some true := by
  rw [surmiselaw10_CodecCmds.j0, if_neg (by decide), bind_of (awake10_true k (by omega)), if_pos rfl, bind_of (refcmd_some c s st r l x (by omega) k (by omega)), bind_of (laycmd_some c s st r l x h1 h2 h3 h4 hi h6 k (by omega)), bind_of (lawlaid_true _ _), if_pos rfl,
   bind_of (refrecord_some c2 s2 st2 r2 es (by omega) 1048577 (evsz he.2) k (by omega)), bind_of (layrecord_some c2 s2 st2 r2 es g1 g2 g3 g4 (by omega) he.2 k (by omega)), bind_of (lawlaid_true _ _), if_pos rfl,
   bind_of (refevents_some es (by omega) 1048577 (evsz he.2) k (by omega)), bind_of (layevents_some es (by omega) he.2 k (by omega)), bind_of (lawlaid_true _ _)]
 unfold surmiselaw10_CodecCmds.f
 rw [bind_of (putcmd_some c s st r l x h1 h2 h3 h4 hi h6 (k + 1) (by omega)), bind_of (putrecord_some c2 s2 st2 r2 es g1 g2 g3 g4 (by omega) he.2 (k + 1) (by omega)), bind_of (putevents_some es (by omega) he.2 (k + 1) (by omega))]
 have hlight : ∃ b, surmiselaw10_light.f c s st r l x c2 s2 st2 r2 es = some b := by
  unfold surmiselaw10_light.f
  split
  ·split
   ·exact ⟨_, rfl⟩
   ·exact ⟨_, rfl⟩
  ·exact ⟨_, rfl⟩
 obtain ⟨b, hb⟩ := hlight
 rw [bind_of hb]
 split
 ·cases hd : decide ((es.length : Int) > 50) with
  | true => exact hbad _ _ _ _ _ _
  | false => exact hgood
 ·exact hbad _ _ _ _ _ _
end Go.Proofs.Ytbfehjncllkogaa.Pure
namespace Go.Proofs.Ytbfehjncllkogaa.Q
open Go.RowKit Go.Proofs.YtbfehjncllkogaaW.PrintWords Go.Proofs.YtbfehjncllkogaaW.PrintLast Go.Proofs.YtbfehjncllkogaaW.PrintMore
section
variable {H : Type} (enc : TypeId × Value → H) (P : Program) (W : World)
def Opens {α : Type} (t : TypeId) (d : Kd α) (G : α → Prop) : Prop :=
 P.cellsOf t = d.sz ∧ ∀ (fuel : Nat) (cs : List Value) (x : DataW H × List MemPlace), DataW.trod enc P W 0 (fun _ => true) true fuel t cs = some x → (∀ n ∈ x.1.weights P t, n ≤ reachBytes) → ∃ y, d.K W y cs ∧ G y
def OpensSeq {α : Type} (ts : List TypeId) (d : Kd α) (G : α → Prop) : Prop :=
 (ts.map P.cellsOf).sum = d.sz ∧ ∀ (fuel : Nat) (cs : List Value) (xs : List (DataW H × List MemPlace)), cs.length = (ts.map P.cellsOf).sum → xs.length = ts.length →
  (∀ i t, ts[i]? = some t → DataW.trod enc P W 0 (fun _ => true) true fuel t ((cs.drop ((ts.take i).map P.cellsOf).sum).take (P.cellsOf t)) = xs[i]?) →
  (∀ n ∈ DataW.weightsEach P ts (xs.map (·.1)), n ≤ reachBytes) → ∃ y, d.K W y cs ∧ G y
variable {enc P W}
theorem Opens.int {t : TypeId} {k : IntKind} (ht : P.underlying t = some (.int k)) (hc : P.cellsOf t = 1) : Opens enc P W t (Kd.int k) (fun n => (Lit.int k n).wf = true) := by
 refine ⟨hc, fun fuel cs x h _ => ?_⟩
 obtain ⟨n, rfl, _, hw⟩ := DataW.trod_int ht h
 exact ⟨n, rfl, hw⟩
theorem Opens.bool {t : TypeId} (ht : P.underlying t = some .bool) (hc : P.cellsOf t = 1) : Opens enc P W t Kd.bool (fun _ => True) := by
 refine ⟨hc, fun fuel cs x h _ => ?_⟩
 cases fuel with
 | zero => simp [DataW.trod] at h
 | succ n =>
  unfold DataW.trod at h
  rw [ht] at h
  split at h <;> first | exact ⟨_, rfl, trivial⟩ | simp_all
theorem Opens.string {t : TypeId} (ht : P.underlying t = some .string) (hc : P.cellsOf t = 1) : Opens enc P W t Kd.string (fun s => s.size ≤ 140737488351232) := by
 refine ⟨hc, fun fuel cs x h hw => ?_⟩
 obtain ⟨s, rfl, rfl, _⟩ := DataW.trod_string ht h
 refine ⟨s, rfl, ?_⟩
 have := hw s.data.toList.length (by simp [DataW.weights])
 simpa [reachBytes, Array.length_toList] using this
theorem weights_all {e : TypeId} {ds : List (DataW H)} {d : DataW H} (h : d ∈ ds) : ∀ n ∈ d.weights P e, n ∈ DataW.weightsAll P e ds := by
 induction ds with
 | nil => cases h
 | cons d' ds ih =>
  intro n hn
  rw [DataW.weightsAll, List.mem_append]
  rcases List.mem_cons.1 h with rfl | h
  ·exact .inl hn
  ·exact .inr (ih h n hn)
open Classical in
theorem choose_list {α : Type} (z : α) (R : Nat → α → Prop) (n : Nat) (h : ∀ i, i < n → ∃ y, R i y) : ∃ l : List α, l.length = n ∧ ∀ i (hi : i < n) (hl : i < l.length), R i l[i] := by
 refine ⟨(List.range n).map fun i => if h' : ∃ y, R i y then Classical.choose h' else z, by simp, fun i hi hl => ?_⟩
 have he := h i hi
 simp only [List.getElem_map, List.getElem_range, dif_pos he]
 exact Classical.choose_spec he
theorem Opens.slice {α : Type} (z : α) {t e : TypeId} {d : Kd α} {G : α → Prop} (bytes : Nat) (ht : P.underlying t = some (.slice e)) (hc : P.cellsOf t = 1) (hb : P.bytesOf e = bytes) (h : Opens enc P W e d G) :
  Opens enc P W t (Kd.slice e d) (fun xs => xs.length * bytes ≤ 140737488351232 ∧ xs.length ≤ 9223372036854775807 ∧ ∀ x ∈ xs, G x) := by
 refine ⟨hc, fun fuel cs x hx hw => ?_⟩
 rcases Go.Deep.open_slice ht hx with ⟨rfl, rfl⟩ | ⟨a, len, cap, m, n, D, Pl, rfl, _, hlc, hcm, hm, rfl, hel⟩
 ·exact ⟨[], ⟨none, 0, rfl, Nat.le_refl _, Kd.C_nil d W⟩, by simp, by simp, fun x hx => by cases hx⟩
 ·have hlm : len ≤ m := by rw [hm]; split <;> omega
  have hwt : DataW.weights P t (.slice ((List.range len).map D) ((List.range (m - len)).map fun j => D (len + j))) =
    (((List.range len).map D).length + ((List.range (m - len)).map fun j => D (len + j)).length) * P.bytesOf e :: (DataW.weightsAll P e ((List.range len).map D) ++ DataW.weightsAll P e ((List.range (m - len)).map fun j => D (len + j))) := by
   rw [DataW.weights]
   simp only [ht]
  have hel' : ∀ i, i < len → ∃ y, (∃ cs', W.cells? 0 (a.add (i * P.cellsOf e)) (P.cellsOf e) = some cs' ∧ d.K W y cs') ∧ G y := by
   intro i hi
   obtain ⟨cs', h1, h2⟩ := hel i (by omega)
   obtain ⟨y, hy, hg⟩ := h.2 n cs' _ h2 (fun n hn => hw n (by
    rw [hwt]
    exact List.mem_cons_of_mem _ (List.mem_append_left _ (weights_all (List.mem_map.2 ⟨i, List.mem_range.2 hi, rfl⟩) n hn))))
   exact ⟨y, ⟨cs', h1, hy⟩, hg⟩
  obtain ⟨l, hll, hl⟩ := choose_list z _ len hel'
  have hb1 := hw _ (by rw [hwt]; exact List.mem_cons_self)
  have hle : len * bytes ≤ 140737488351232 := by
   simp only [List.length_map, List.length_range, hb, reachBytes] at hb1
   exact Nat.le_trans (Nat.mul_le_mul_right _ (by omega)) hb1
  have hmx : len ≤ 9223372036854775807 := by
   simp only [maxLen] at hcm
   omega
  refine ⟨l, ⟨some a, cap, by rw [hll], by omega, by rw [hll], by omega, fun _ => ⟨a, rfl, fun j p hj => ?_⟩⟩, by rw [hll]; exact hle, by omega, fun x hx => ?_⟩
  ·obtain ⟨hjl, rfl⟩ := List.getElem?_eq_some_iff.1 hj
   obtain ⟨⟨cs', h1, hK⟩, _⟩ := hl j (by omega) hjl
   obtain ⟨_, hcl, hcell⟩ := World.cells?_some h1
   refine ⟨cs', by rw [hcl, h.1], hK, fun i u hu => ?_⟩
   have hi : i < P.cellsOf e := by
    have := (List.getElem?_eq_some_iff.1 hu).1
    omega
   have := hcell i hi
   rw [hu, add_add, h.1] at this
   exact this
  ·obtain ⟨j, hj, rfl⟩ := List.getElem_of_mem hx
   exact (hl j (by omega) hj).2
theorem OpensSeq.one {α : Type} {t : TypeId} {d : Kd α} {G : α → Prop} (h : Opens enc P W t d G) : OpensSeq enc P W [t] d G := by
 refine ⟨by simp [h.1], fun fuel cs xs hl hx hr hw => ?_⟩
 have hr0 := hr 0 t rfl
 simp only [List.take_zero, List.map_nil, List.sum_nil, List.drop_zero] at hr0
 have hc : cs.length = P.cellsOf t := by simpa using hl
 rw [List.take_of_length_le (by omega)] at hr0
 match xs, hx with
 | [x], _ =>
  exact h.2 fuel cs x hr0 (fun n hn => hw n (by simp [DataW.weightsEach, hn]))
theorem OpensSeq.cons {α β : Type} {t : TypeId} {ts : List TypeId} {d : Kd α} {d' : Kd β} {G : α → Prop} {G' : β → Prop} (h : Opens enc P W t d G) (h' : OpensSeq enc P W ts d' G') :
  OpensSeq enc P W (t :: ts) (Kd.pair d d') (fun y => G y.1 ∧ G' y.2) := by
 refine ⟨by simp [Kd.pair, h.1, h'.1], fun fuel cs xs hl hx hr hw => ?_⟩
 match xs, hx with
 | x :: xs, hx =>
  have hr0 := hr 0 t rfl
  simp only [List.take_zero, List.map_nil, List.sum_nil, List.drop_zero] at hr0
  obtain ⟨y, hy, hg⟩ := h.2 fuel _ x hr0 (fun n hn => hw n (by simp [DataW.weightsEach, hn]))
  have hl2 : (cs.drop (P.cellsOf t)).length = (ts.map P.cellsOf).sum := by
   rw [List.length_drop, hl, List.map_cons, List.sum_cons]
   omega
  obtain ⟨y', hy', hg'⟩ := h'.2 fuel (cs.drop (P.cellsOf t)) xs hl2 (by simpa using hx) (fun i t' ht' => by
   have := hr (i + 1) t' (by simpa using ht')
   simp only [List.take_succ_cons, List.map_cons, List.sum_cons, List.getElem?_cons_succ] at this
   rw [List.drop_drop]
   exact this) (fun n hn => hw n (by simp only [List.map_cons, DataW.weightsEach, List.mem_append]; exact .inr hn))
  exact ⟨(y, y'), ⟨_, _, (List.take_append_drop (P.cellsOf t) cs).symm, hy, hy'⟩, hg, hg'⟩
theorem Opens.struct {α β : Type} {t : TypeId} {fs : Array Field} (ts : List TypeId) {d : Kd α} {G : α → Prop} (f : β → α) (g : α → β) (hfg : ∀ a, f (g a) = a) (ht : P.underlying t = some (.struct fs)) (hts : fs.toList.map (·.type) = ts)
  (hoff0 : fs.toList.map (·.offset) = (List.range fs.size).map fun i => ((ts.take i).map P.cellsOf).sum) (hc : P.cellsOf t = (ts.map P.cellsOf).sum) (h : OpensSeq enc P W ts d G) : Opens enc P W t (Kd.iso d f) (fun y => G (f y)) := by
 have hoff : ∀ i fd, fs[i]? = some fd → fd.offset = ((ts.take i).map P.cellsOf).sum := by
  intro i fd hi
  have h1 : (fs.toList.map (·.offset))[i]? = some fd.offset := by rw [List.getElem?_map, Array.getElem?_toList, hi]; rfl
  have hlt : i < fs.size := (Array.getElem?_eq_some_iff.1 hi).1
  rw [hoff0, List.getElem?_map, List.getElem?_range hlt] at h1
  simpa using h1.symm
 refine ⟨hc.trans h.1, fun fuel cs x hx hw => ?_⟩
 obtain ⟨xs, n, rfl, rfl, hcl, hxl, hfd⟩ := DataW.trod_struct ht hx
 have hwt : DataW.weights P t (.agg (xs.map (·.1)) : DataW H) = DataW.weightsEach P ts (xs.map (·.1)) := by
  rw [DataW.weights]
  simp only [ht, hts]
 obtain ⟨y, hy, hg⟩ := h.2 n cs xs (hcl.trans hc) (by rw [hxl, ← hts]; simp) (fun i t' ht' => by
  rw [← hts, List.getElem?_map, Option.map_eq_some_iff] at ht'
  obtain ⟨fd, hfi, rfl⟩ := ht'
  rw [Array.getElem?_toList] at hfi
  rw [← hoff i fd hfi]
  exact hfd i fd hfi) (fun n hn => hw n (by rw [hwt]; exact hn))
 exact ⟨g y, by show d.K W (f (g y)) cs; rw [hfg]; exact hy, by show G (f (g y)); rw [hfg]; exact hg⟩
theorem weights_each {ts : List TypeId} : ∀ {ds : List (DataW H)} {j : Nat} {t : TypeId} {d : DataW H}, ts[j]? = some t → ds[j]? = some d → ∀ n ∈ d.weights P t, n ∈ DataW.weightsEach P ts ds := by
 induction ts with
 | nil => intro ds j t d h; simp at h
 | cons t' ts ih =>
  intro ds j t d h h' n hn
  cases ds with
  | nil => simp at h'
  | cons d' ds =>
   rw [DataW.weightsEach, List.mem_append]
   cases j with
   | zero =>
    simp only [List.getElem?_cons_zero, Option.some.injEq] at h h'
    subst h h'
    exact .inl hn
   | succ j => exact .inr (ih (by simpa using h) (by simpa using h') n hn)
end
theorem sum_bulk {H : Type} {α : Type} (m : α → Nat) (D : Nat → DataW H) (l : List α) (n : Nat) (hl : l.length = n) (h : ∀ i (hi : i < n) (hl' : i < l.length), m l[i] ≤ Rows.uptoBulk (D i)) : (l.map m).sum ≤ Rows.uptoBulkAll ((List.range n).map D) := by
 subst hl
 induction l generalizing D with
 | nil => exact Nat.zero_le _
 | cons x l ih =>
  rw [List.length_cons, List.range_succ_eq_map, List.map_cons, List.map_cons, List.map_map, List.sum_cons, Rows.uptoBulkAll]
  exact Nat.add_le_add (h 0 (by simp) (by simp)) (ih (D ∘ Nat.succ) (fun i hi hl' => h (i + 1) (by simpa using hi) (by simpa using hl')))
section
variable {H : Type} (enc : TypeId × Value → H) (P : Program) (W : World)
def OpensM {α : Type} (t : TypeId) (d : Kd α) (G : α → Prop) (m : α → Nat) : Prop :=
 P.cellsOf t = d.sz ∧ ∀ (fuel : Nat) (cs : List Value) (x : DataW H × List MemPlace), DataW.trod enc P W 0 (fun _ => true) true fuel t cs = some x → (∀ n ∈ x.1.weights P t, n ≤ reachBytes) → ∃ y, d.K W y cs ∧ G y ∧ m y ≤ Rows.uptoBulk x.1
def OpensSeqM {α : Type} (ts : List TypeId) (d : Kd α) (G : α → Prop) (m : α → Nat) : Prop :=
 (ts.map P.cellsOf).sum = d.sz ∧ ∀ (fuel : Nat) (cs : List Value) (xs : List (DataW H × List MemPlace)), cs.length = (ts.map P.cellsOf).sum → xs.length = ts.length →
  (∀ i t, ts[i]? = some t → DataW.trod enc P W 0 (fun _ => true) true fuel t ((cs.drop ((ts.take i).map P.cellsOf).sum).take (P.cellsOf t)) = xs[i]?) →
  (∀ n ∈ DataW.weightsEach P ts (xs.map (·.1)), n ≤ reachBytes) → ∃ y, d.K W y cs ∧ G y ∧ m y ≤ Rows.uptoBulkAll (xs.map (·.1))
variable {enc P W}
theorem OpensM.int {t : TypeId} {k : IntKind} (ht : P.underlying t = some (.int k)) (hc : P.cellsOf t = 1) : OpensM enc P W t (Kd.int k) (fun n => (Lit.int k n).wf = true) (fun _ => 1) := by
 refine ⟨hc, fun fuel cs x h _ => ?_⟩
 obtain ⟨n, rfl, rfl, hw⟩ := DataW.trod_int ht h
 exact ⟨n, rfl, hw, Nat.le_refl _⟩
theorem OpensM.bool {t : TypeId} (ht : P.underlying t = some .bool) (hc : P.cellsOf t = 1) : OpensM enc P W t Kd.bool (fun _ => True) (fun _ => 0) := by
 refine ⟨hc, fun fuel cs x h _ => ?_⟩
 cases fuel with
 | zero => simp [DataW.trod] at h
 | succ n =>
  unfold DataW.trod at h
  rw [ht] at h
  split at h <;> first | exact ⟨_, rfl, trivial, Nat.zero_le _⟩ | simp_all
theorem OpensM.string {t : TypeId} (ht : P.underlying t = some .string) (hc : P.cellsOf t = 1) : OpensM enc P W t Kd.string (fun s => s.size ≤ 140737488351232) (fun s => s.size + 1) := by
 refine ⟨hc, fun fuel cs x h hw => ?_⟩
 obtain ⟨s, rfl, rfl, _⟩ := DataW.trod_string ht h
 refine ⟨s, rfl, ?_, ?_⟩
 ·have := hw s.data.toList.length (by simp [DataW.weights])
  simpa [reachBytes, Array.length_toList] using this
 ·show s.size + 1 ≤ s.data.toList.length + 1
  rw [Array.length_toList]
  exact Nat.le_refl _
theorem OpensM.slice {α : Type} (z : α) {t e : TypeId} {d : Kd α} {G : α → Prop} {m : α → Nat} (bytes : Nat) (ht : P.underlying t = some (.slice e)) (hc : P.cellsOf t = 1) (hb : P.bytesOf e = bytes) (h : OpensM enc P W e d G m) :
  OpensM enc P W t (Kd.slice e d) (fun xs => xs.length * bytes ≤ 140737488351232 ∧ xs.length ≤ 9223372036854775807 ∧ ∀ x ∈ xs, G x) (fun xs => (xs.map m).sum + 1) := by
 refine ⟨hc, fun fuel cs x hx hw => ?_⟩
 rcases Go.Deep.open_slice ht hx with ⟨rfl, rfl⟩ | ⟨a, len, cap, mm, n, D, Pl, rfl, _, hlc, hcm, hm, rfl, hel⟩
 ·exact ⟨[], ⟨none, 0, rfl, Nat.le_refl _, Kd.C_nil d W⟩, ⟨by simp, by simp, fun x hx => by cases hx⟩, by simp [Rows.uptoBulk]⟩
 ·have hlm : len ≤ mm := by rw [hm]; split <;> omega
  have hwt : DataW.weights P t (.slice ((List.range len).map D) ((List.range (mm - len)).map fun j => D (len + j))) =
    (((List.range len).map D).length + ((List.range (mm - len)).map fun j => D (len + j)).length) * P.bytesOf e :: (DataW.weightsAll P e ((List.range len).map D) ++ DataW.weightsAll P e ((List.range (mm - len)).map fun j => D (len + j))) := by
   rw [DataW.weights]
   simp only [ht]
  have hel' : ∀ i, i < len → ∃ y, (∃ cs', W.cells? 0 (a.add (i * P.cellsOf e)) (P.cellsOf e) = some cs' ∧ d.K W y cs') ∧ G y ∧ m y ≤ Rows.uptoBulk (D i) := by
   intro i hi
   obtain ⟨cs', h1, h2⟩ := hel i (by omega)
   obtain ⟨y, hy, hg, hmm⟩ := h.2 n cs' _ h2 (fun n hn => hw n (by
    rw [hwt]
    exact List.mem_cons_of_mem _ (List.mem_append_left _ (weights_all (List.mem_map.2 ⟨i, List.mem_range.2 hi, rfl⟩) n hn))))
   exact ⟨y, ⟨cs', h1, hy⟩, hg, hmm⟩
  obtain ⟨l, hll, hl⟩ := choose_list z _ len hel'
  have hb1 := hw _ (by rw [hwt]; exact List.mem_cons_self)
  have hle : len * bytes ≤ 140737488351232 := by
   simp only [List.length_map, List.length_range, hb, reachBytes] at hb1
   exact Nat.le_trans (Nat.mul_le_mul_right _ (by omega)) hb1
  have hmx : len ≤ 9223372036854775807 := by
   simp only [maxLen] at hcm
   omega
  refine ⟨l, ⟨some a, cap, by rw [hll], by omega, by rw [hll], by omega, fun _ => ⟨a, rfl, fun j p hj => ?_⟩⟩, ⟨by rw [hll]; exact hle, by omega, fun x hx => ?_⟩, ?_⟩
  ·obtain ⟨hjl, rfl⟩ := List.getElem?_eq_some_iff.1 hj
   obtain ⟨⟨cs', h1, hK⟩, _, _⟩ := hl j (by omega) hjl
   obtain ⟨_, hcl, hcell⟩ := World.cells?_some h1
   refine ⟨cs', by rw [hcl, h.1], hK, fun i u hu => ?_⟩
   have hi : i < P.cellsOf e := by
    have := (List.getElem?_eq_some_iff.1 hu).1
    omega
   have := hcell i hi
   rw [hu, add_add, h.1] at this
   exact this
  ·obtain ⟨j, hj, rfl⟩ := List.getElem_of_mem hx
   exact (hl j (by omega) hj).2.1
  ·have hsum : (l.map m).sum ≤ Rows.uptoBulkAll ((List.range len).map D) := sum_bulk m D l len hll (fun i hi hl' => (hl i hi hl').2.2)
   show (l.map m).sum + 1 ≤ Rows.uptoBulkAll _ + Rows.uptoBulkAll _ + 1
   omega
theorem OpensSeqM.one {α : Type} {t : TypeId} {d : Kd α} {G : α → Prop} {m : α → Nat} (h : OpensM enc P W t d G m) : OpensSeqM enc P W [t] d G m := by
 refine ⟨by simp [h.1], fun fuel cs xs hl hx hr hw => ?_⟩
 have hr0 := hr 0 t rfl
 simp only [List.take_zero, List.map_nil, List.sum_nil, List.drop_zero] at hr0
 have hc : cs.length = P.cellsOf t := by simpa using hl
 rw [List.take_of_length_le (by omega)] at hr0
 match xs, hx with
 | [x], _ =>
  obtain ⟨y, hy, hg, hmm⟩ := h.2 fuel cs x hr0 (fun n hn => hw n (by simp [DataW.weightsEach, hn]))
  exact ⟨y, hy, hg, by simpa [Rows.uptoBulkAll] using hmm⟩
theorem OpensSeqM.cons {α β : Type} {t : TypeId} {ts : List TypeId} {d : Kd α} {d' : Kd β} {G : α → Prop} {G' : β → Prop} {m : α → Nat} {m' : β → Nat} (h : OpensM enc P W t d G m) (h' : OpensSeqM enc P W ts d' G' m') :
  OpensSeqM enc P W (t :: ts) (Kd.pair d d') (fun y => G y.1 ∧ G' y.2) (fun y => m y.1 + m' y.2) := by
 refine ⟨by simp [Kd.pair, h.1, h'.1], fun fuel cs xs hl hx hr hw => ?_⟩
 match xs, hx with
 | x :: xs, hx =>
  have hr0 := hr 0 t rfl
  simp only [List.take_zero, List.map_nil, List.sum_nil, List.drop_zero] at hr0
  obtain ⟨y, hy, hg, hm1⟩ := h.2 fuel _ x hr0 (fun n hn => hw n (by simp [DataW.weightsEach, hn]))
  have hl2 : (cs.drop (P.cellsOf t)).length = (ts.map P.cellsOf).sum := by
   rw [List.length_drop, hl, List.map_cons, List.sum_cons]
   omega
  obtain ⟨y', hy', hg', hm2⟩ := h'.2 fuel (cs.drop (P.cellsOf t)) xs hl2 (by simpa using hx) (fun i t' ht' => by
   have := hr (i + 1) t' (by simpa using ht')
   simp only [List.take_succ_cons, List.map_cons, List.sum_cons, List.getElem?_cons_succ] at this
   rw [List.drop_drop]
   exact this) (fun n hn => hw n (by simp only [List.map_cons, DataW.weightsEach, List.mem_append]; exact .inr hn))
  exact ⟨(y, y'), ⟨_, _, (List.take_append_drop (P.cellsOf t) cs).symm, hy, hy'⟩, ⟨hg, hg'⟩, Nat.add_le_add hm1 hm2⟩
theorem OpensM.struct {α β : Type} {t : TypeId} {fs : Array Field} (ts : List TypeId) {d : Kd α} {G : α → Prop} {m : α → Nat} (f : β → α) (g : α → β) (hfg : ∀ a, f (g a) = a) (ht : P.underlying t = some (.struct fs)) (hts : fs.toList.map (·.type) = ts)
  (hoff0 : fs.toList.map (·.offset) = (List.range fs.size).map fun i => ((ts.take i).map P.cellsOf).sum) (hc : P.cellsOf t = (ts.map P.cellsOf).sum) (h : OpensSeqM enc P W ts d G m) : OpensM enc P W t (Kd.iso d f) (fun y => G (f y)) (fun y => m (f y)) := by
 have hoff : ∀ i fd, fs[i]? = some fd → fd.offset = ((ts.take i).map P.cellsOf).sum := by
  intro i fd hi
  have h1 : (fs.toList.map (·.offset))[i]? = some fd.offset := by rw [List.getElem?_map, Array.getElem?_toList, hi]; rfl
  have hlt : i < fs.size := (Array.getElem?_eq_some_iff.1 hi).1
  rw [hoff0, List.getElem?_map, List.getElem?_range hlt] at h1
  simpa using h1.symm
 refine ⟨hc.trans h.1, fun fuel cs x hx hw => ?_⟩
 obtain ⟨xs, n, rfl, rfl, hcl, hxl, hfd⟩ := DataW.trod_struct ht hx
 have hwt : DataW.weights P t (.agg (xs.map (·.1)) : DataW H) = DataW.weightsEach P ts (xs.map (·.1)) := by
  rw [DataW.weights]
  simp only [ht, hts]
 obtain ⟨y, hy, hg, hmm⟩ := h.2 n cs xs (hcl.trans hc) (by rw [hxl, ← hts]; simp) (fun i t' ht' => by
  rw [← hts, List.getElem?_map, Option.map_eq_some_iff] at ht'
  obtain ⟨fd, hfi, rfl⟩ := ht'
  rw [Array.getElem?_toList] at hfi
  rw [← hoff i fd hfi]
  exact hfd i fd hfi) (fun n hn => hw n (by rw [hwt]; exact hn))
 exact ⟨g y, by show d.K W (f (g y)) cs; rw [hfg]; exact hy, by show G (f (g y)); rw [hfg]; exact hg, by show m (f (g y)) ≤ Rows.uptoBulkAll _ + 1; rw [hfg]; omega⟩
end
end Go.Proofs.Ytbfehjncllkogaa.Q
