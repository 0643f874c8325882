/- Written by this session's program (wip/tool/xprint.py) over the kit's printer. -/
import Derived.Test.YtkcdmmegdhiabaaDoorProg
import Derived.Below
import Derived.Deep.Draws
import Derived.Deep.AppendLies
import Derived.Maps.AppendAt
import Derived.OwnWalk
import Derived.Laws.BytesArg
import Derived.Laws.MakeOwn
import Derived.Laws.OwnMore
import Derived.Deep.OwnRows
import Derived.Tactics
import Derived.Lib.ConvBytes
import Derived.Laws.Slices
import Derived.WalkKit
import Derived.KernelRfl
import Derived.RowKit3
import Derived.Deep.LoopGhost
import Derived.Deep.QuietTactic
import Derived.BigQuiet
import Derived.WideLaws
import Derived.Deep.DeepCutAuto
import Derived.Deep.CutBlock
import Derived.Deep.RegionHeld3
import Derived.Laws.Rows
import Derived.Lib.AppendStr
import Derived.ArgAppend
import Derived.Laws.IdiomCopy
import Derived.OrdersHeld
import Derived.Laws.BitsLemmas
import Derived.RowKit
import Derived.WalkSpells
import Derived.Shelf.Strings.SlTrimAscii
import Derived.Shelf.Strings.Count
import Derived.Shelf.Strings.Repeat
import Derived.Test.YtkcdmmegdhiabaaDoorWWords
import Derived.Test.YtkcdmmegdhiabaaDoorWLast
import Derived.Test.YtkcdmmegdhiabaaDoorWTab
import Derived.Test.YtkcdmmegdhiabaaDoorWFour
import Derived.Test.YtkcdmmegdhiabaaDoorWQPut
import Derived.Test.YtkcdmmegdhiabaaDoorWApart
import Derived.Test.YtkcdmmegdhiabaaDoorWArr
import Derived.Test.YtkcdmmegdhiabaaDoorWZeros
import Derived.Test.YtkcdmmegdhiabaaDoorWFoot
import Derived.Test.YtkcdmmegdhiabaaDoorWKept
import Derived.Test.YtkcdmmegdhiabaaDoorWShare
import Derived.Test.YtkcdmmegdhiabaaDoorWN
import Derived.Test.YtkcdmmegdhiabaaDoorWFootNe
import Derived.Test.YtkcdmmegdhiabaaDoorWAt
import Derived.Test.YtkcdmmegdhiabaaDoorWEqStruct
import Derived.Test.YtkcdmmegdhiabaaDoorWRepsOne
import Derived.Test.YtkcdmmegdhiabaaDoorWInv
import Derived.Test.YtkcdmmegdhiabaaDoorWInvWords
import Derived.Test.YtkcdmmegdhiabaaDoorWGuard
import Derived.Test.YtkcdmmegdhiabaaDoorWNEv
import Derived.Test.YtkcdmmegdhiabaaDoorWMore
namespace Go.Proofs.YtkcdmmegdhiabaaDoor.PFnContinued
open Go.RowKit Go.Proofs.YtkcdmmegdhiabaaDoorW.PrintWords Go.Proofs.YtkcdmmegdhiabaaDoorW.PrintLast Go.Proofs.YtkcdmmegdhiabaaDoorW.PrintMore
attribute [local go_sem] max2_int min2_int max_two min_two max_three min_three max_four min_four   -- for this text's walks alone
set_option linter.unusedVariables false
set_option linter.unusedSimpArgs false



def errW : Option Int → Value
  | none => .nilIface
  | some c => .iface 0 (.int .i64 c)
theorem errW_none : errW none = .nilIface := rfl
theorem errW_some (c : Int) : errW (some c) = .iface 0 (.int .i64 c) := rfl

theorem u8_w (n : Int) : IntKind.u8.wrap n = n % 256 := rfl
theorem w64_u8 (n : Int) : wrap64 (n % 256) = n % 256 := by unfold wrap64; omega

theorem info2 : (Tryd.prog.info? 2).map (fun i => (i.zero, i.size, i.bytes)) = some (some (.int .i64 0), 1, 8) := by kernel_rfl
-- the values' own types

end Go.Proofs.YtkcdmmegdhiabaaDoor.PFnContinued
