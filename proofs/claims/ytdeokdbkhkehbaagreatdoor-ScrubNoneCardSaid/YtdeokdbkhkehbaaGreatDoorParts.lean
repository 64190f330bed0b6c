/- Parts: functions with a package's variable in a part that the runs never come to. -/
import Derived.Test.YtdeokdbkhkehbaaGreatDoorCut12
import Derived.Test.YtdeokdbkhkehbaaGreatDoorVgF
import Derived.KernelRfl
open Go Go.Vi
namespace Go.Proofs.YtdeokdbkhkehbaaGreatDoor.C
noncomputable def cP455 : Code := (Tryz.f455.body).getD .skip
noncomputable def EP455 : Env := EC12.tell 455 (runPartV EC12 (callF EC12 3000) (lookP (plansRaw cP455)) 3000 Tryz.f455 cP455)
theorem okP455 : EnvOk Tryz.prog EP455 := tell_ok okC12 (part_ext okC12 (callOk_le (call_le EC12 3000) (call_ok okC12 3000)) Tryz.func455 (by kernel_rfl) (by decide +kernel) (by kernel_rfl))
end Go.Proofs.YtdeokdbkhkehbaaGreatDoor.C
