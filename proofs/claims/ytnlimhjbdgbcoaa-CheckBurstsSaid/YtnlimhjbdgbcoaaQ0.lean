-- By px.py, a program of this session that drives the kit's printer: laid out of the translation; Lean checks it.
import Derived.Test.YtnlimhjbdgbcoaaProg
import Derived.Below
import Derived.Deep.Draws
import Derived.Deep.AppendLies
import Derived.Maps.AppendAt
import Derived.OwnWalk
import Derived.Laws.BytesArg
import Derived.Laws.MakeOwn
import Derived.Laws.OwnMore
import Derived.Deep.OwnRows
import Derived.Tactics
import Derived.Lib.ConvBytes
import Derived.Laws.Slices
import Derived.WalkKit
import Derived.KernelRfl
import Derived.RowKit3
import Derived.Deep.LoopGhost
import Derived.Deep.QuietTactic
import Derived.BigQuiet
import Derived.WideLaws
import Derived.Deep.DeepCutAuto
import Derived.Deep.CutBlock
import Derived.Deep.RegionHeld3
import Derived.Laws.Rows
import Derived.Lib.AppendStr
import Derived.ArgAppend
import Derived.Laws.IdiomCopy
import Derived.OrdersHeld
import Derived.Laws.BitsLemmas
import Derived.RowKit
import Derived.Test.YtnlimhjbdgbcoaaWWords
import Derived.Test.YtnlimhjbdgbcoaaWLast
import Derived.Test.YtnlimhjbdgbcoaaWTab
import Derived.Test.YtnlimhjbdgbcoaaWFour
import Derived.Test.YtnlimhjbdgbcoaaWQPut
import Derived.Test.YtnlimhjbdgbcoaaWApart
import Derived.Test.YtnlimhjbdgbcoaaWArr
import Derived.Test.YtnlimhjbdgbcoaaWZeros
import Derived.Test.YtnlimhjbdgbcoaaWFoot
import Derived.Test.YtnlimhjbdgbcoaaWKept
import Derived.Test.YtnlimhjbdgbcoaaWShare
import Derived.Test.YtnlimhjbdgbcoaaWN
import Derived.Test.YtnlimhjbdgbcoaaWFootNe
import Derived.Test.YtnlimhjbdgbcoaaWAt
import Derived.Test.YtnlimhjbdgbcoaaWEqStruct
import Derived.Test.YtnlimhjbdgbcoaaWRepsOne
import Derived.Test.YtnlimhjbdgbcoaaWInv
import Derived.Test.YtnlimhjbdgbcoaaWInvWords
import Derived.Test.YtnlimhjbdgbcoaaWGuard
import Derived.Test.YtnlimhjbdgbcoaaWNEv
import Derived.Test.YtnlimhjbdgbcoaaWMore
namespace Go.Proofs.Ytnlimhjbdgbcoaa.Q
open Go.RowKit Go.Proofs.YtnlimhjbdgbcoaaW.PrintWords Go.Proofs.YtnlimhjbdgbcoaaW.PrintLast Go.Proofs.YtnlimhjbdgbcoaaW.PrintMore
attribute [local go_sem] max2_int min2_int max_two min_two max_three min_three max_four min_four   -- for this text's walks alone
set_option linter.unusedVariables false
set_option linter.unusedSimpArgs false



def errW : Option Int → Value
  | none => .nilIface
  | some c => .iface 0 (.int .i64 c)
theorem errW_none : errW none = .nilIface := rfl
theorem errW_some (c : Int) : errW (some c) = .iface 0 (.int .i64 c) := rfl

theorem info5 : (Try.prog.info? 5).map (fun i => (i.zero, i.size, i.bytes)) = some (some (.int .u8 0), 1, 1) := by kernel_rfl
-- the values' own types

end Go.Proofs.Ytnlimhjbdgbcoaa.Q
