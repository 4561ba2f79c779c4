/- The row of the law surmiselaw22_NetDoes: it holds for every input that the row reads, by the pure statement and the walk. Conditions: the row's own alone. (Laid by px.py, a program of this session.) -/
import Derived.Test.YtclmhodgfhkgcaaRows
import Derived.Test.YtclmhodgfhkgcaaTNetDoese
import Derived.WalkKit
import Derived.ProofKit
import Derived.OpenShut
import Derived.ShutString
import Derived.ChangeOld
import Derived.Below
import Derived.SizedLaws
import Derived.WideShapes
namespace Go.Proofs.Ytclmhodgfhkgcaa.netDoes
open Go.ChangeShapes Go.WideShapes Go.ChangeAt Go.RowKit Go.Proofs.Ytclmhodgfhkgcaa.Q Go.Proofs.YtclmhodgfhkgcaaW.PrintWords
open Go.ChangeMaps (open_string shut_string)
set_option linter.unusedVariables false
theorem own : ownKnob Try.prog.godebug = none := by kernel_rfl
theorem laidOut : laidOutB Try.prog = true := by kernel_rfl
set_option maxRecDepth 100000 in
theorem opens1 {H : Type} (enc_ : TypeId × Value → H) (W_ : World) : Opens enc_ Try.prog W_ 36 (Kd.slice 41 k41) (fun y1 : List (S41) => (y1.length * 64 ≤ 140737488351232 ∧ y1.length ≤ 9223372036854775807 ∧ ∀ y2 ∈ y1, ((Lit.int .i64 y2.f0).wf = true ∧ (Lit.int .i64 y2.f1).wf = true ∧ (Lit.int .i64 y2.f2).wf = true ∧ ((Lit.int .i64 y2.f3.f0).wf = true ∧ (Lit.int .i64 y2.f3.f1).wf = true ∧ y2.f3.f2.size ≤ 140737488351232) ∧ True))) :=
  (Opens.slice (z41 : S41) 64 Try.underlying36 (by kernel_rfl) (by kernel_rfl) (show Opens enc_ Try.prog W_ 41 k41 _ from Opens.struct [3, 3, 3, 30, 4] (fun x : S41 => (x.f0, (x.f1, (x.f2, (x.f3, x.f4))))) (fun q => (⟨q.1, q.2.1, q.2.2.1, q.2.2.2.1, q.2.2.2.2⟩ : S41)) (fun _ => rfl) Try.underlying41 rfl (by kernel_rfl) (by kernel_rfl) (OpensSeq.cons (Opens.int Try.underlying3 (by kernel_rfl)) (OpensSeq.cons (Opens.int Try.underlying3 (by kernel_rfl)) (OpensSeq.cons (Opens.int Try.underlying3 (by kernel_rfl)) (OpensSeq.cons (show Opens enc_ Try.prog W_ 30 k30 _ from Opens.struct [3, 3, 9] (fun x : S30 => (x.f0, (x.f1, x.f2))) (fun q => (⟨q.1, q.2.1, q.2.2⟩ : S30)) (fun _ => rfl) Try.underlying30 rfl (by kernel_rfl) (by kernel_rfl) (OpensSeq.cons (Opens.int Try.underlying3 (by kernel_rfl)) (OpensSeq.cons (Opens.int Try.underlying3 (by kernel_rfl)) (OpensSeq.one (Opens.string Try.underlying9 (by kernel_rfl)))))) (OpensSeq.one (Opens.bool Try.underlying4 (by kernel_rfl)))))))))
set_option maxRecDepth 100000 in
theorem lifted (os : Os) (started : os.Started) (H : Type) (enc : TypeId × Value → H) :
    ReturnsInHanded {} Try.checked os 4 .any (Rows.netDoesSpec.pre6 enc Try.prog Try.f4 Rows.netDoesRow.domain false) (Rows.netDoesSpec.post enc Try.prog Try.f4 false true false false) := by
  refine returnsInHanded_of_change_sized (C := Try.checked) own started (by kernel_rfl) Try.func4
    (ChangeSpec.witness6 (enc := enc) (C := Try.checked) false ⟨#[], #[.int .i64 0, .slice none 0 0], []⟩ 12 (by kernel_rfl) (by kernel_rfl) (by kernel_rfl) (by kernel_rfl)) ?_
  intro W base args ds gs before hval0 hW hcnd hsz0 _
  have hsz : (DataW.weightsEach Try.prog (Try.f4.params.toList ++ Rows.netDoesSpec.plain.varTypes Try.prog) (ds ++ gs)).all (· ≤ reachBytes) = true := hsz0
  have hval : ∀ (j : Nat) t v, Try.f4.params[j]? = some t → args[j]? = some v → Value.okWide Try.prog W .any base t v := hval0
  have hW' := hW
  obtain ⟨p, q, hA0, hV, rfl, hfz, hnd⟩ := hW
  have hA : DataW.TrodAll enc Try.prog W 0 (fun _ => true) true Try.f4.params.toList args.toList ds p := hA0
  rw [Try.params4] at hA hval hsz
  obtain ⟨v0, vs0, d0, ds0, p0, q0, hargs, rfl, rfl, h0, r0⟩ := trodAll_cons hA
  obtain ⟨v1, vs1, d1, ds1, p1, q1, rfl, rfl, rfl, h1, r1⟩ := trodAll_cons r0
  obtain ⟨rfl, rfl, rfl⟩ := trodAll_nil r1
  obtain rfl : args = #[v0, v1] := by cases args; simp_all
  obtain ⟨rfl, rfl⟩ := trodVars_none hV
  obtain ⟨a0, rfl, rfl, rfl, w0⟩ := open_int Try.underlying3 (hval 0 3 v0 rfl rfl) h0
  have k1 := h1
  have lt1 : ∀ x ∈ p1, x.block < W.heap.size := by obtain ⟨m, hm⟩ := k1; exact DataW.trod_lt m _ _ _ hm
  obtain ⟨fuel1, hf1⟩ := h1
  obtain ⟨y1, hK1, hG1⟩ := (opens1 enc W).2 fuel1 _ _ hf1 (fun n hn => of_decide_eq_true (List.all_eq_true.1 hsz n (weights_each (j := 1) rfl rfl n hn)))
  obtain ⟨b1, len1, cap1, rfl⟩ := okWide_slice Try.underlying36 (hval 1 36 v1 rfl rfl)
  obtain ⟨A1, c1, hcs1, hle1, hC1⟩ := hK1
  simp [Value.cells] at hcs1
  obtain ⟨rfl, rfl, rfl⟩ := hcs1
  refine (netDoes_hand a0 _ _ y1 W w0 hG1 hC1 hle1).mono fun e W' he0 => ?_
  obtain ⟨he, bel⟩ := he0
  subst he
  exact ⟨_, rfl, _, _, _, [], _, [], hW', trodAll_mk1 (shut_bool Try.underlying4 _), (trodAll_cons_mk (shut_int Try.underlying3 w0) (trodAll_cons_mk (Below.trod laidOut (by kernel_rfl) (of_decide_eq_true (by kernel_rfl)) k1 bel lt1) trodAll_mk0)), rfl, bel.frame _, fun h => by cases h⟩
theorem over : Rows.netDoesRow.holds Try.pinned (OpenSpec.ofChange Rows.netDoesSpec) :=
  OpenClaim.holds_of_wide 4 Try.f4 rfl rfl rfl rfl rfl rfl rfl ⟨rfl, rfl, rfl, rfl, rfl⟩ rfl rfl rfl rfl rfl (by kernel_rfl) Try.func4 (by kernel_rfl)
    (of_decide_eq_true (by kernel_rfl)) (by unfold Func.isWrapper; first | (rw [if_pos (by decide +kernel)]; kernel_rfl) | (rw [if_neg (by decide +kernel)]; exact ⟨rfl, rfl⟩))
    (fun os started H enc _ => lifted os started H enc)
theorem proved : Rows.NetDoesSaid := over
#print axioms proved
end Go.Proofs.Ytclmhodgfhkgcaa.netDoes
namespace Go.Proofs.Ytclmhodgfhkgcaa
/-- The row, under a short name, for the claim. -/
theorem netDoes_holds : Rows.NetDoesSaid := netDoes.proved
end Go.Proofs.Ytclmhodgfhkgcaa
