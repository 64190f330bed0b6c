/- MyTie2: what the run of the program's own laying leaves. -/
import Derived.Test.YtijnnpbfgmmngaaGreatDoorMyTie
namespace Go.Proofs.YtijnnpbfgmmngaaGreatDoor.talkNone
open Go
set_option maxRecDepth 100000
theorem tRun (os : Os) (tape : Tape) : doorLeaves Tryz.prog 400 8 65 lst os tape = some (lst.filter fun x => x.2.handleName?.isNone, (funcsListed lst).map (·.2.funcsOut)) := by kernel_rfl
end Go.Proofs.YtijnnpbfgmmngaaGreatDoor.talkNone
