/- Wit1: a world in which the law may be called: its closed facts. -/
import Derived.Test.YtijnnpbfgmmngaaGreatDoorRows
import Derived.Lib.LaidTab
import Derived.Stop.LaidErr
import Derived.WalkKit
import Derived.ProofKit
import Derived.LaidHandle
import Derived.Handed
open Go
namespace Go.Proofs.YtijnnpbfgmmngaaGreatDoor.talkNone
set_option linter.unusedVariables false
set_option maxRecDepth 100000
theorem own : ownKnob Tryz.prog.godebug = none := by kernel_rfl
noncomputable def laidPut (g : Nat) (cs : Array Value) (w : World) : World := { w with heap := w.heap.modify g fun
    | .cells _ t frozen => .cells cs t frozen
    | o => o }
def litD : DataW Unit → List Value
  | .lit (.int k n) => [.int k n]
  | _ => []
def cellsD : DataW Unit → List Value
  | .agg l => l.flatMap fun d => match d with
    | .agg m => m.flatMap litD
    | d => litD d
  | d => litD d
def strD : DataW Unit → ByteArray
  | .iface _ (.ptr (.agg [.lit (.string l)])) => ⟨⟨l⟩⟩
  | _ => .empty
noncomputable def laidErr (g tp te : Nat) (s : ByteArray) (w : World) : World := laidPut g #[.iface tp (.pointer (some ⟨w.heap.size, 0, none⟩))] (w.alloc (.cells #[.string s] te))
noncomputable def laidWorld (os : Os) : World := laidErr 2 145 147 (strD (Rows.laid_strconv_ErrRange (H := Unit))) (laidErr 1 145 147 (strD (Rows.laid_strconv_ErrSyntax (H := Unit))) (laidPut 5 (cellsD (Rows.laid_unicode_utf8_acceptRanges (H := Unit))).toArray (laidPut 4 (cellsD (Rows.laid_unicode_utf8_first)).toArray
  (laidPut 7 (cellsD (Rows.laid_math_bits_deBruijn64tab (H := Unit))).toArray (laidPut 6 (cellsD (Rows.laid_math_bits_deBruijn32tab (H := Unit))).toArray (laidPut 3 (cellsD (Rows.laid_internal_strconv_uint64pow10 (H := Unit))).toArray (World.holding Tryz.prog os ⟨#[], #[], []⟩)))))))
theorem laidWorld_met (os : Os) (args : Array Value) : laidMetH Tryz.prog Rows.talkNoneRow.laid ((laidWorld os).forCall (fun _ _ => 0) ⟨#[], args, []⟩).memory :=
  laidMetH_of_parts (laidMet_of_run' 100 (by kernel_rfl) (by kernel_rfl)) (by kernel_rfl)
theorem wv (os : Os) : ((laidWorld os).forCall (fun _ _ => 0) ⟨#[], #[.slice none 0 0], []⟩).variablesB Tryz.checked.prog = true := by kernel_rfl
theorem wr (os : Os) : (((laidWorld os).forCall (fun _ _ => 0) ⟨#[], #[.slice none 0 0], []⟩).heap.toList.drop Tryz.checked.prog.globals.size).take ((begin Tryz.checked.prog (fun _ _ => 0) default).world.heap.size - Tryz.checked.prog.globals.size) = (begin Tryz.checked.prog (fun _ _ => 0) default).world.heap.toList.drop Tryz.checked.prog.globals.size := by kernel_rfl
theorem wo (os : Os) : Input.okWideB Tryz.checked.prog ((laidWorld os).forCall (fun _ _ => 0) ⟨#[], #[.slice none 0 0], []⟩) 3 ⟨#[], #[.slice none 0 0], []⟩ = true := by kernel_rfl
theorem noInit : Tryz.checked.prog.inits.idxOf? 3 = none := by kernel_rfl
end Go.Proofs.YtijnnpbfgmmngaaGreatDoor.talkNone
