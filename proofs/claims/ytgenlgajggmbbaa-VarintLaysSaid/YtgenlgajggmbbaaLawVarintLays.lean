/- The row of the law surmiselaw01_VarintLays: it holds for every input that the row reads, by the pure statement and the walk. Conditions: the row's own alone. (Laid by px.py, a program of this session.) -/
import Derived.Test.YtgenlgajggmbbaaRows
import Derived.Test.YtgenlgajggmbbaaQf5
import Derived.Test.YtgenlgajggmbbaaPureVarintLays
import Derived.Test.YtgenlgajggmbbaaHOpen
import Derived.WalkKit
import Derived.ProofKit
import Derived.OpenShut
import Derived.ShutString
import Derived.ChangeOld
import Derived.Below
import Derived.SizedLaws
import Derived.WideShapes
namespace Go.Proofs.Ytgenlgajggmbbaa.varintLays
open Go.ChangeShapes Go.WideShapes Go.ChangeAt Go.RowKit Go.Proofs.Ytgenlgajggmbbaa.Q Go.Proofs.YtgenlgajggmbbaaW.PrintWords
open Go.ChangeMaps (open_string shut_string)
set_option linter.unusedVariables false
theorem own : ownKnob Try.prog.godebug = none := by kernel_rfl
theorem laidOut : laidOutB Try.prog = true := by kernel_rfl
set_option maxRecDepth 100000 in
theorem opens1 {H : Type} (enc_ : TypeId × Value → H) (W_ : World) : Opens enc_ Try.prog W_ 26 (Kd.slice 3 (Kd.int .i64)) (fun y1 : List Int => (y1.length * 8 ≤ 140737488351232 ∧ y1.length ≤ 9223372036854775807 ∧ ∀ y2 ∈ y1, (Lit.int .i64 y2).wf = true)) :=
  (Opens.slice (0 : Int) 8 Try.underlying26 (by kernel_rfl) (by kernel_rfl) (Opens.int Try.underlying3 (by kernel_rfl)))
set_option maxRecDepth 100000 in
theorem opens2 {H : Type} (enc_ : TypeId × Value → H) (W_ : World) : Opens enc_ Try.prog W_ 27 (Kd.slice 9 Kd.string) (fun y1 : List ByteArray => (y1.length * 16 ≤ 140737488351232 ∧ y1.length ≤ 9223372036854775807 ∧ ∀ y2 ∈ y1, y2.size ≤ 140737488351232)) :=
  (Opens.slice ((⟨#[]⟩ : ByteArray) : ByteArray) 16 Try.underlying27 (by kernel_rfl) (by kernel_rfl) (Opens.string Try.underlying9 (by kernel_rfl)))
set_option maxRecDepth 100000 in
theorem lifted (os : Os) (started : os.Started) (H : Type) (enc : TypeId × Value → H) :
    ReturnsInHanded {} Try.checked os 5 .any (Rows.varintLaysSpec.pre6 enc Try.prog Try.f5 Rows.varintLaysRow.domain false) (Rows.varintLaysSpec.post enc Try.prog Try.f5 false true false false) := by
  refine returnsInHanded_of_change_sized (C := Try.checked) own started (by kernel_rfl) Try.func5
    (ChangeSpec.witness6 (enc := enc) (C := Try.checked) false ⟨#[], #[.string ByteArray.empty, .slice none 0 0, .slice none 0 0], []⟩ 12 (by kernel_rfl) (by kernel_rfl) (by kernel_rfl) (by kernel_rfl)) ?_
  intro W base args ds gs before hval0 hW hcnd hsz0 _
  have hsz : (DataW.weightsEach Try.prog (Try.f5.params.toList ++ Rows.varintLaysSpec.plain.varTypes Try.prog) (ds ++ gs)).all (· ≤ reachBytes) = true := hsz0
  have hval : ∀ (j : Nat) t v, Try.f5.params[j]? = some t → args[j]? = some v → Value.okWide Try.prog W .any base t v := hval0
  have hW' := hW
  obtain ⟨p, q, hA0, hV, rfl, hfz, hnd⟩ := hW
  have hA : DataW.TrodAll enc Try.prog W 0 (fun _ => true) true Try.f5.params.toList args.toList ds p := hA0
  rw [Try.params5] at hA hval hsz
  obtain ⟨v0, vs0, d0, ds0, p0, q0, hargs, rfl, rfl, h0, r0⟩ := trodAll_cons hA
  obtain ⟨v1, vs1, d1, ds1, p1, q1, rfl, rfl, rfl, h1, r1⟩ := trodAll_cons r0
  obtain ⟨v2, vs2, d2, ds2, p2, q2, rfl, rfl, rfl, h2, r2⟩ := trodAll_cons r1
  obtain ⟨rfl, rfl, rfl⟩ := trodAll_nil r2
  obtain rfl : args = #[v0, v1, v2] := by cases args; simp_all
  obtain ⟨rfl, rfl⟩ := trodVars_none hV
  obtain ⟨a0, rfl, rfl, rfl, y0⟩ := open_string Try.underlying9 (hval 0 9 v0 rfl rfl) h0
  have w0 : a0.size ≤ 140737488351232 := by
    have z := sized_string hsz (j := 0) (t := 9) rfl rfl
    rw [Array.length_toList] at z
    exact z
  have k1 := h1
  have lt1 : ∀ x ∈ p1, x.block < W.heap.size := by obtain ⟨m, hm⟩ := k1; exact DataW.trod_lt m _ _ _ hm
  obtain ⟨fuel1, hf1⟩ := h1
  obtain ⟨y1, hK1, hG1⟩ := (opens1 enc W).2 fuel1 _ _ hf1 (fun n hn => of_decide_eq_true (List.all_eq_true.1 hsz n (weights_each (j := 1) rfl rfl n hn)))
  obtain ⟨b1, len1, cap1, rfl⟩ := okWide_slice Try.underlying26 (hval 1 26 v1 rfl rfl)
  obtain ⟨A1, c1, hcs1, hle1, hC1⟩ := hK1
  simp [Value.cells] at hcs1
  obtain ⟨rfl, rfl, rfl⟩ := hcs1
  have k2 := h2
  have lt2 : ∀ x ∈ p2, x.block < W.heap.size := by obtain ⟨m, hm⟩ := k2; exact DataW.trod_lt m _ _ _ hm
  obtain ⟨fuel2, hf2⟩ := h2
  obtain ⟨y2, hK2, hG2⟩ := (opens2 enc W).2 fuel2 _ _ hf2 (fun n hn => of_decide_eq_true (List.all_eq_true.1 hsz n (weights_each (j := 2) rfl rfl n hn)))
  obtain ⟨b2, len2, cap2, rfl⟩ := okWide_slice Try.underlying27 (hval 2 27 v2 rfl rfl)
  obtain ⟨A2, c2, hcs2, hle2, hC2⟩ := hK2
  simp [Value.cells] at hcs2
  obtain ⟨rfl, rfl, rfl⟩ := hcs2
  obtain ⟨k, hk⟩ := Pure.VarintLays a0 y1 y2 w0 hG1 hG2
  refine (surmiselaw01_VarintLays.calls k a0 _ _ y1 _ _ y2 true W hC1 hle1 hC2 hle2 hk).mono fun e W' he0 => ?_
  obtain ⟨he, hd⟩ := he0
  have bel : Below W.heap.size W W' := hd
  subst he
  exact ⟨_, rfl, _, _, _, [], _, [], hW', trodAll_mk1 (shut_bool Try.underlying4 _), (trodAll_cons_mk (shut_string Try.underlying9 y0) (trodAll_cons_mk (Below.trod laidOut (by kernel_rfl) (of_decide_eq_true (by kernel_rfl)) k1 bel lt1) (trodAll_cons_mk (Below.trod laidOut (by kernel_rfl) (of_decide_eq_true (by kernel_rfl)) k2 bel lt2) trodAll_mk0))), rfl, bel.frame _, fun h => by cases h⟩
theorem over : Rows.varintLaysRow.holds Try.pinned (OpenSpec.ofChange Rows.varintLaysSpec) :=
  OpenClaim.holds_of_wide 5 Try.f5 rfl rfl rfl rfl rfl rfl rfl ⟨rfl, rfl, rfl, rfl, rfl⟩ rfl rfl rfl rfl rfl (by kernel_rfl) Try.func5 (by kernel_rfl)
    (of_decide_eq_true (by kernel_rfl)) (by unfold Func.isWrapper; first | (rw [if_pos (by decide +kernel)]; kernel_rfl) | (rw [if_neg (by decide +kernel)]; exact ⟨rfl, rfl⟩))
    (fun os started H enc _ => lifted os started H enc)
theorem proved : Rows.VarintLaysSaid := over
#print axioms proved
end Go.Proofs.Ytgenlgajggmbbaa.varintLays
namespace Go.Proofs.Ytgenlgajggmbbaa
/-- The row, under a short name, for the claim. -/
theorem varintLays_holds : Rows.VarintLaysSaid := varintLays.proved
end Go.Proofs.Ytgenlgajggmbbaa
