/-
  No cell of these rows narrows 'for every input' (looked for: loops, veiled, ifaces, maps, wideKeys, modest, calm, conditions, laid).
  DERIVED. THE GIVEN ROWS OF THIS SEAT. 6 by the template 'for every input the law returns true; each argument reads behind the call as it read before'; 0 by the template 'total and deterministic' (their statements: YtgenlgajggmbbaaTotals.lean).
  GIVEN WITH THE SEED: the statements are not yours to turn. If you find one false, say at which input.
  Laid BY PROGRAM, IN A SANDBOX (cutbox-rows.mjs): the forced cells as the released guide's own fill.sh prints them over the translation 6da9833f24523124… (all of the seat's roots in one cut). By AI agents, Wed Nov 11 2026. No macro, syntax, notation, axiom, sorry.
-/
import Derived.Test.YtgenlgajggmbbaaChecked
import GoSem.Claim
import GoSem.ClaimJoined
import GoSem.ClaimMapViews
import Derived.JoinedTies
import Derived.KernelRfl
namespace Go.Proofs.Ytgenlgajggmbbaa
/- THE CELL 'sum', in the pinned program and in every row, IS THE sha256 OF THE DUMP (.gsa) THAT YtgenlgajggmbbaaProg.lean LOADS. Nothing in Lean hashes anything: it is a label: what it is worth is what the hold of that sum in a sandbox is worth. -/
noncomputable def Try.pinned : Pinned := { name := "ytgenlgajggmbbaa", sum := "6da9833f24523124167f899831ba7e4f82e2e803f716c745e60352a6408d4fe1", checked := Try.checked }
namespace Rows
def none {H : Type} : Left H := { results := [], args := [] }

/-- 'surmiselaw01.VarintNumbers': WHATEVER THE INPUT: true; the input reads as it did. -/
def varintNumbersSpec : ChangeSpec := { name := "varintNumbers", fn := fun _ => fun
  | [d] => { results := [.lit (.bool true)], args := [d] }
  | _ => none }
def varintNumbersRow : OpenClaim := { program := "ytgenlgajggmbbaa", sum := "6da9833f24523124167f899831ba7e4f82e2e803f716c745e60352a6408d4fe1", func := "surmise/surmiselaw01.VarintNumbers", spec := "varintNumbers", recurses := true, apart := false }
def VarintNumbersSaid : Prop := varintNumbersRow.holds Try.pinned (OpenSpec.ofChange varintNumbersSpec)

/-- ITS FALSE NEIGHBOUR: 'it returns false'. Refute it at one input. -/
def varintNumbersWrong : ChangeSpec := { name := "varintNumbers", fn := fun _ => fun
  | [d] => { results := [.lit (.bool false)], args := [d] }
  | _ => none }
def VarintNumbersWrongFalsely : Prop := varintNumbersRow.holds Try.pinned (OpenSpec.ofChange varintNumbersWrong)

/-- 'surmiselaw01.VarintShort': WHATEVER THE INPUT: true; the input reads as it did. -/
def varintShortSpec : ChangeSpec := { name := "varintShort", fn := fun _ => fun
  | [d1, d2] => { results := [.lit (.bool true)], args := [d1, d2] }
  | _ => none }
def varintShortRow : OpenClaim := { program := "ytgenlgajggmbbaa", sum := "6da9833f24523124167f899831ba7e4f82e2e803f716c745e60352a6408d4fe1", func := "surmise/surmiselaw01.VarintShort", spec := "varintShort", apart := false }
def VarintShortSaid : Prop := varintShortRow.holds Try.pinned (OpenSpec.ofChange varintShortSpec)

/-- ITS FALSE NEIGHBOUR: 'it returns false'. Refute it at one input. -/
def varintShortWrong : ChangeSpec := { name := "varintShort", fn := fun _ => fun
  | [d1, d2] => { results := [.lit (.bool false)], args := [d1, d2] }
  | _ => none }
def VarintShortWrongFalsely : Prop := varintShortRow.holds Try.pinned (OpenSpec.ofChange varintShortWrong)

/-- 'surmiselaw01.VarintLays': WHATEVER THE INPUT: true; the input reads as it did. -/
def varintLaysSpec : ChangeSpec := { name := "varintLays", fn := fun _ => fun
  | [d1, d2, d3] => { results := [.lit (.bool true)], args := [d1, d2, d3] }
  | _ => none }
def varintLaysRow : OpenClaim := { program := "ytgenlgajggmbbaa", sum := "6da9833f24523124167f899831ba7e4f82e2e803f716c745e60352a6408d4fe1", func := "surmise/surmiselaw01.VarintLays", spec := "varintLays", unfollowed := true, recurses := true, apart := false }
def VarintLaysSaid : Prop := varintLaysRow.holds Try.pinned (OpenSpec.ofChange varintLaysSpec)

/-- ITS FALSE NEIGHBOUR: 'it returns false'. Refute it at one input. -/
def varintLaysWrong : ChangeSpec := { name := "varintLays", fn := fun _ => fun
  | [d1, d2, d3] => { results := [.lit (.bool false)], args := [d1, d2, d3] }
  | _ => none }
def VarintLaysWrongFalsely : Prop := varintLaysRow.holds Try.pinned (OpenSpec.ofChange varintLaysWrong)

/-- 'surmiselaw01.VarintReads': WHATEVER THE INPUT: true; the input reads as it did. -/
def varintReadsSpec : ChangeSpec := { name := "varintReads", fn := fun _ => fun
  | [d1, d2] => { results := [.lit (.bool true)], args := [d1, d2] }
  | _ => none }
def varintReadsRow : OpenClaim := { program := "ytgenlgajggmbbaa", sum := "6da9833f24523124167f899831ba7e4f82e2e803f716c745e60352a6408d4fe1", func := "surmise/surmiselaw01.VarintReads", spec := "varintReads", unfollowed := true, recurses := true, apart := false }
def VarintReadsSaid : Prop := varintReadsRow.holds Try.pinned (OpenSpec.ofChange varintReadsSpec)

/-- ITS FALSE NEIGHBOUR: 'it returns false'. Refute it at one input. -/
def varintReadsWrong : ChangeSpec := { name := "varintReads", fn := fun _ => fun
  | [d1, d2] => { results := [.lit (.bool false)], args := [d1, d2] }
  | _ => none }
def VarintReadsWrongFalsely : Prop := varintReadsRow.holds Try.pinned (OpenSpec.ofChange varintReadsWrong)

/-- 'surmiselaw01.VarintBack': WHATEVER THE INPUT: true; the input reads as it did. -/
def varintBackSpec : ChangeSpec := { name := "varintBack", fn := fun _ => fun
  | [d] => { results := [.lit (.bool true)], args := [d] }
  | _ => none }
def varintBackRow : OpenClaim := { program := "ytgenlgajggmbbaa", sum := "6da9833f24523124167f899831ba7e4f82e2e803f716c745e60352a6408d4fe1", func := "surmise/surmiselaw01.VarintBack", spec := "varintBack", unfollowed := true, recurses := true, apart := false }
def VarintBackSaid : Prop := varintBackRow.holds Try.pinned (OpenSpec.ofChange varintBackSpec)

/-- ITS FALSE NEIGHBOUR: 'it returns false'. Refute it at one input. -/
def varintBackWrong : ChangeSpec := { name := "varintBack", fn := fun _ => fun
  | [d] => { results := [.lit (.bool false)], args := [d] }
  | _ => none }
def VarintBackWrongFalsely : Prop := varintBackRow.holds Try.pinned (OpenSpec.ofChange varintBackWrong)

/-- 'surmiselaw01.VarintOnce': WHATEVER THE INPUT: true; the input reads as it did. -/
def varintOnceSpec : ChangeSpec := { name := "varintOnce", fn := fun _ => fun
  | [d1, d2] => { results := [.lit (.bool true)], args := [d1, d2] }
  | _ => none }
def varintOnceRow : OpenClaim := { program := "ytgenlgajggmbbaa", sum := "6da9833f24523124167f899831ba7e4f82e2e803f716c745e60352a6408d4fe1", func := "surmise/surmiselaw01.VarintOnce", spec := "varintOnce", unfollowed := true, recurses := true, apart := false }
def VarintOnceSaid : Prop := varintOnceRow.holds Try.pinned (OpenSpec.ofChange varintOnceSpec)

/-- ITS FALSE NEIGHBOUR: 'it returns false'. Refute it at one input. -/
def varintOnceWrong : ChangeSpec := { name := "varintOnce", fn := fun _ => fun
  | [d1, d2] => { results := [.lit (.bool false)], args := [d1, d2] }
  | _ => none }
def VarintOnceWrongFalsely : Prop := varintOnceRow.holds Try.pinned (OpenSpec.ofChange varintOnceWrong)

/- THE SECOND FORM. 'bulk': how many values and letters a reading holds, each counted each time it is reached (what is shared counts as often as it is met; a slice's spare places count too). A statement '..UptoSaid' is the law's where the arguments, and the package variables that the reading takes, are together of bulk at most 1048576: NARROWER than '..Said'. Prove '..Said' where nothing that the law and all that it calls make is longer than what came in: it says more and counts as full. Else prove '..UptoSaid'. A law counts once. -/
mutual
def uptoBulk {H : Type} : DataW H → Nat
  | .lit (.string bytes) => bytes.length + 1
  | .lit _ => 1
  | .nil => 1
  | .ptr d => uptoBulk d + 1
  | .slice elems spare => uptoBulkAll elems + uptoBulkAll spare + 1
  | .agg parts => uptoBulkAll parts + 1
  | .iface _ d => uptoBulk d + 1
  | .map entries => uptoBulkEntries entries + 1
  | .held _ => 1
def uptoBulkAll {H : Type} : List (DataW H) → Nat
  | [] => 0
  | d :: r => uptoBulk d + uptoBulkAll r
def uptoBulkEntries {H : Type} : List (Lit × DataW H) → Nat
  | [] => 0
  | x :: r => uptoBulkEntry x + uptoBulkEntries r
def uptoBulkEntry {H : Type} : Lit × DataW H → Nat
  | (.string bytes, d) => bytes.length + uptoBulk d + 1
  | (_, d) => uptoBulk d + 1
 end
def uptoSmall : (H : Type) → List (DataW H) → Bool := fun _ ds => decide (uptoBulkAll ds ≤ 1048576)
def OpenSpec.upto (s : _root_.Go.ChangeSpec) : _root_.Go.OpenSpec := { _root_.Go.OpenSpec.ofChange s with cond := some uptoSmall }

/-- 'surmiselaw01.VarintNumbers', WHERE WHAT IT READS IS OF BULK AT MOST 1048576: true; the input reads as it did. -/
def varintNumbersUptoRow : OpenClaim := { program := "ytgenlgajggmbbaa", sum := "6da9833f24523124167f899831ba7e4f82e2e803f716c745e60352a6408d4fe1", func := "surmise/surmiselaw01.VarintNumbers", spec := "varintNumbers", recurses := true, apart := false, narrowed := true }
def VarintNumbersUptoSaid : Prop := varintNumbersUptoRow.holds Try.pinned (OpenSpec.upto varintNumbersSpec)

/-- 'surmiselaw01.VarintShort', WHERE WHAT IT READS IS OF BULK AT MOST 1048576: true; the input reads as it did. -/
def varintShortUptoRow : OpenClaim := { program := "ytgenlgajggmbbaa", sum := "6da9833f24523124167f899831ba7e4f82e2e803f716c745e60352a6408d4fe1", func := "surmise/surmiselaw01.VarintShort", spec := "varintShort", apart := false, narrowed := true }
def VarintShortUptoSaid : Prop := varintShortUptoRow.holds Try.pinned (OpenSpec.upto varintShortSpec)

/-- 'surmiselaw01.VarintLays', WHERE WHAT IT READS IS OF BULK AT MOST 1048576: true; the input reads as it did. -/
def varintLaysUptoRow : OpenClaim := { program := "ytgenlgajggmbbaa", sum := "6da9833f24523124167f899831ba7e4f82e2e803f716c745e60352a6408d4fe1", func := "surmise/surmiselaw01.VarintLays", spec := "varintLays", unfollowed := true, recurses := true, apart := false, narrowed := true }
def VarintLaysUptoSaid : Prop := varintLaysUptoRow.holds Try.pinned (OpenSpec.upto varintLaysSpec)

/-- 'surmiselaw01.VarintReads', WHERE WHAT IT READS IS OF BULK AT MOST 1048576: true; the input reads as it did. -/
def varintReadsUptoRow : OpenClaim := { program := "ytgenlgajggmbbaa", sum := "6da9833f24523124167f899831ba7e4f82e2e803f716c745e60352a6408d4fe1", func := "surmise/surmiselaw01.VarintReads", spec := "varintReads", unfollowed := true, recurses := true, apart := false, narrowed := true }
def VarintReadsUptoSaid : Prop := varintReadsUptoRow.holds Try.pinned (OpenSpec.upto varintReadsSpec)

/-- 'surmiselaw01.VarintBack', WHERE WHAT IT READS IS OF BULK AT MOST 1048576: true; the input reads as it did. -/
def varintBackUptoRow : OpenClaim := { program := "ytgenlgajggmbbaa", sum := "6da9833f24523124167f899831ba7e4f82e2e803f716c745e60352a6408d4fe1", func := "surmise/surmiselaw01.VarintBack", spec := "varintBack", unfollowed := true, recurses := true, apart := false, narrowed := true }
def VarintBackUptoSaid : Prop := varintBackUptoRow.holds Try.pinned (OpenSpec.upto varintBackSpec)

/-- 'surmiselaw01.VarintOnce', WHERE WHAT IT READS IS OF BULK AT MOST 1048576: true; the input reads as it did. -/
def varintOnceUptoRow : OpenClaim := { program := "ytgenlgajggmbbaa", sum := "6da9833f24523124167f899831ba7e4f82e2e803f716c745e60352a6408d4fe1", func := "surmise/surmiselaw01.VarintOnce", spec := "varintOnce", unfollowed := true, recurses := true, apart := false, narrowed := true }
def VarintOnceUptoSaid : Prop := varintOnceUptoRow.holds Try.pinned (OpenSpec.upto varintOnceSpec)

end Rows
end Go.Proofs.Ytgenlgajggmbbaa
