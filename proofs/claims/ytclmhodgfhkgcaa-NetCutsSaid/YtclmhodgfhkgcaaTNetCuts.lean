/- The row of the law surmiselaw22_NetCuts: it holds for every input that the row reads, by the pure statement and the walk. Conditions: the row's own alone. (Laid by px.py, a program of this session.) -/
import Derived.Test.YtclmhodgfhkgcaaRows
import Derived.Test.YtclmhodgfhkgcaaTNetCutsf
import Derived.WalkKit
import Derived.ProofKit
import Derived.OpenShut
import Derived.ShutString
import Derived.ChangeOld
import Derived.Below
import Derived.SizedLaws
import Derived.WideShapes
namespace Go.Proofs.Ytclmhodgfhkgcaa.netCuts
open Go.ChangeShapes Go.WideShapes Go.ChangeAt Go.RowKit Go.Proofs.Ytclmhodgfhkgcaa.Q Go.Proofs.YtclmhodgfhkgcaaW.PrintWords
open Go.ChangeMaps (open_string shut_string)
set_option linter.unusedVariables false
theorem own : ownKnob Try.prog.godebug = none := by kernel_rfl
theorem laidOut : laidOutB Try.prog = true := by kernel_rfl
set_option maxRecDepth 100000 in
theorem opens0 {H : Type} (enc_ : TypeId × Value → H) (W_ : World) : Opens enc_ Try.prog W_ 53 (Kd.iso (Kd.pair (Kd.slice 41 k41) (Kd.pair (Kd.int .i64) (Kd.pair (Kd.int .i64) (Kd.pair (Kd.int .i64) (Kd.int .i64))))) id) (fun y1 => ((y1.1.length * 64 ≤ 140737488351232 ∧ y1.1.length ≤ 9223372036854775807 ∧ ∀ y2 ∈ y1.1, ((Lit.int .i64 y2.f0).wf = true ∧ (Lit.int .i64 y2.f1).wf = true ∧ (Lit.int .i64 y2.f2).wf = true ∧ ((Lit.int .i64 y2.f3.f0).wf = true ∧ (Lit.int .i64 y2.f3.f1).wf = true ∧ y2.f3.f2.size ≤ 140737488351232) ∧ True)) ∧ (Lit.int .i64 y1.2.1).wf = true ∧ (Lit.int .i64 y1.2.2.1).wf = true ∧ (Lit.int .i64 y1.2.2.2.1).wf = true ∧ (Lit.int .i64 y1.2.2.2.2).wf = true)) :=
  (show Opens enc_ Try.prog W_ 53 (Kd.iso (Kd.pair (Kd.slice 41 k41) (Kd.pair (Kd.int .i64) (Kd.pair (Kd.int .i64) (Kd.pair (Kd.int .i64) (Kd.int .i64))))) id) _ from Opens.struct [36, 3, 3, 3, 3] id id (fun _ => rfl) Try.underlying53 rfl (by kernel_rfl) (by kernel_rfl) (OpensSeq.cons (Opens.slice (z41 : S41) 64 Try.underlying36 (by kernel_rfl) (by kernel_rfl) (show Opens enc_ Try.prog W_ 41 k41 _ from Opens.struct [3, 3, 3, 30, 4] (fun x : S41 => (x.f0, (x.f1, (x.f2, (x.f3, x.f4))))) (fun q => (⟨q.1, q.2.1, q.2.2.1, q.2.2.2.1, q.2.2.2.2⟩ : S41)) (fun _ => rfl) Try.underlying41 rfl (by kernel_rfl) (by kernel_rfl) (OpensSeq.cons (Opens.int Try.underlying3 (by kernel_rfl)) (OpensSeq.cons (Opens.int Try.underlying3 (by kernel_rfl)) (OpensSeq.cons (Opens.int Try.underlying3 (by kernel_rfl)) (OpensSeq.cons (show Opens enc_ Try.prog W_ 30 k30 _ from Opens.struct [3, 3, 9] (fun x : S30 => (x.f0, (x.f1, x.f2))) (fun q => (⟨q.1, q.2.1, q.2.2⟩ : S30)) (fun _ => rfl) Try.underlying30 rfl (by kernel_rfl) (by kernel_rfl) (OpensSeq.cons (Opens.int Try.underlying3 (by kernel_rfl)) (OpensSeq.cons (Opens.int Try.underlying3 (by kernel_rfl)) (OpensSeq.one (Opens.string Try.underlying9 (by kernel_rfl)))))) (OpensSeq.one (Opens.bool Try.underlying4 (by kernel_rfl))))))))) (OpensSeq.cons (Opens.int Try.underlying3 (by kernel_rfl)) (OpensSeq.cons (Opens.int Try.underlying3 (by kernel_rfl)) (OpensSeq.cons (Opens.int Try.underlying3 (by kernel_rfl)) (OpensSeq.one (Opens.int Try.underlying3 (by kernel_rfl))))))))
set_option maxRecDepth 100000 in
theorem lifted (os : Os) (started : os.Started) (H : Type) (enc : TypeId × Value → H) :
    ReturnsInHanded {} Try.checked os 6 .any (Rows.netCutsSpec.pre6 enc Try.prog Try.f6 Rows.netCutsRow.domain false) (Rows.netCutsSpec.post enc Try.prog Try.f6 false true false false) := by
  refine returnsInHanded_of_change_sized (C := Try.checked) own started (by kernel_rfl) Try.func6
    (ChangeSpec.witness6 (enc := enc) (C := Try.checked) false ⟨#[], #[.agg #[.slice none 0 0, .int .i64 0, .int .i64 0, .int .i64 0, .int .i64 0]], []⟩ 12 (by kernel_rfl) (by kernel_rfl) (by kernel_rfl) (by kernel_rfl)) ?_
  intro W base args ds gs before hval0 hW hcnd hsz0 _
  have hsz : (DataW.weightsEach Try.prog (Try.f6.params.toList ++ Rows.netCutsSpec.plain.varTypes Try.prog) (ds ++ gs)).all (· ≤ reachBytes) = true := hsz0
  have hval : ∀ (j : Nat) t v, Try.f6.params[j]? = some t → args[j]? = some v → Value.okWide Try.prog W .any base t v := hval0
  have hW' := hW
  obtain ⟨p, q, hA0, hV, rfl, hfz, hnd⟩ := hW
  have hA : DataW.TrodAll enc Try.prog W 0 (fun _ => true) true Try.f6.params.toList args.toList ds p := hA0
  rw [Try.params6] at hA hval hsz
  obtain ⟨v0, vs0, d0, ds0, p0, q0, hargs, rfl, rfl, h0, r0⟩ := trodAll_cons hA
  obtain ⟨rfl, rfl, rfl⟩ := trodAll_nil r0
  obtain rfl : args = #[v0] := by cases args; simp_all
  obtain ⟨rfl, rfl⟩ := trodVars_none hV
  have k0 := h0
  have lt0 : ∀ x ∈ p0, x.block < W.heap.size := by obtain ⟨m, hm⟩ := k0; exact DataW.trod_lt m _ _ _ hm
  obtain ⟨fuel0, hf0⟩ := h0
  obtain ⟨y0, hK0, hG0⟩ := (opens0 enc W).2 fuel0 _ _ hf0 (fun n hn => of_decide_eq_true (List.all_eq_true.1 hsz n (weights_each (j := 0) rfl rfl n hn)))
  obtain ⟨cs0, rfl, -⟩ := okWide_struct Try.underlying53 (hval 0 53 v0 rfl rfl)
  obtain ⟨x0_0, z0_0, hE0, hl0_0, hr0_0⟩ := hK0
  obtain ⟨A0_0, c0_0, rfl, hle0_0, hC0_0⟩ := hl0_0
  obtain ⟨x0_1, z0_1, rfl, hl0_1, hr0_1⟩ := hr0_0
  obtain rfl := hl0_1
  obtain ⟨x0_2, z0_2, rfl, hl0_2, hr0_2⟩ := hr0_1
  obtain rfl := hl0_2
  obtain ⟨x0_3, z0_3, rfl, hl0_3, hr0_3⟩ := hr0_2
  obtain rfl := hl0_3
  obtain rfl := hr0_3
  obtain rfl : cs0 = #[.slice A0_0 y0.1.length c0_0, .int .i64 y0.2.1, .int .i64 y0.2.2.1, .int .i64 y0.2.2.2.1, .int .i64 y0.2.2.2.2] := Array.ext' hE0
  refine (netCuts_hand _ _ y0.1 y0.2.1 y0.2.2.1 y0.2.2.2.1 y0.2.2.2.2 W hG0.1 hG0.2.1 hG0.2.2.1 hG0.2.2.2.1 hG0.2.2.2.2 hC0_0 hle0_0).mono fun e W' he0 => ?_
  obtain ⟨he, bel⟩ := he0
  subst he
  exact ⟨_, rfl, _, _, _, [], _, [], hW', trodAll_mk1 (shut_bool Try.underlying4 _), (trodAll_cons_mk (Below.trod laidOut (by kernel_rfl) (of_decide_eq_true (by kernel_rfl)) k0 bel lt0) trodAll_mk0), rfl, bel.frame _, fun h => by cases h⟩
theorem over : Rows.netCutsRow.holds Try.pinned (OpenSpec.ofChange Rows.netCutsSpec) :=
  OpenClaim.holds_of_wide 6 Try.f6 rfl rfl rfl rfl rfl rfl rfl ⟨rfl, rfl, rfl, rfl, rfl⟩ rfl rfl rfl rfl rfl (by kernel_rfl) Try.func6 (by kernel_rfl)
    (of_decide_eq_true (by kernel_rfl)) (by unfold Func.isWrapper; first | (rw [if_pos (by decide +kernel)]; kernel_rfl) | (rw [if_neg (by decide +kernel)]; exact ⟨rfl, rfl⟩))
    (fun os started H enc _ => lifted os started H enc)
theorem proved : Rows.NetCutsSaid := over
#print axioms proved
end Go.Proofs.Ytclmhodgfhkgcaa.netCuts
namespace Go.Proofs.Ytclmhodgfhkgcaa
/-- The row, under a short name, for the claim. -/
theorem netCuts_holds : Rows.NetCutsSaid := netCuts.proved
end Go.Proofs.Ytclmhodgfhkgcaa
