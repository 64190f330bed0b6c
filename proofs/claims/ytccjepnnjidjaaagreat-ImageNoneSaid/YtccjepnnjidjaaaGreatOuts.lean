/- Outs: functions that range over maps of several entries, told in all orders. -/
import Derived.Test.YtccjepnnjidjaaaGreatCrc
import Derived.Test.YtccjepnnjidjaaaGreatVgF
open Go Go.Vi
namespace Go.Proofs.YtccjepnnjidjaaaGreat.C
noncomputable def EN63 : Env := E2.tell 63 (outsV E2 (callF E2 300) 300 63)
theorem okN63 : EnvOk Tryz.prog EN63 := tell_ok ok2 (outs_ext ok2 (callOk_le (call_le E2 300) (call_ok ok2 300)))
end Go.Proofs.YtccjepnnjidjaaaGreat.C
