/- K1: what the interpreter knows of the program; the law's own fact. -/
import Derived.Test.YtdmakachnphddaaVgF
import Derived.Test.YtdmakachnphddaaVgI
import Derived.Test.YtdmakachnphddaaVgE
import Derived.Test.YtdmakachnphddaaK00
open Go Go.Vi
namespace Go.Proofs.Ytdmakachnphddaa.C
def envN (P : Program) (ex : List Nat) : Env := { ty := tyOf P, fn := fnRaw P ex, meth := methOf P, ext := fun _ => none, row := fun _ => none }
theorem envN_ok {K : Known} {P : Program} {ex : List Nat} (hall : ∀ f, okAt P ex f = true) (mx : P.follows .mixedOrders = true) : EnvOk K P (envN P ex) :=
  ⟨fun _ _ h => tyOf_ok h, fun _ _ _ h v w => methOf_ok h v w, fun f _ h => fnRaw_ok h (hall f), fun _ _ h => (nomatch h), mx, fun _ _ h => (nomatch h)⟩
noncomputable def E0 : Env := envN Try.prog []
theorem ok0 {K : Known} : EnvOk K Try.prog E0 := envN_ok fit (by kernel_rfl)
theorem alive_run : isTrue ((callF E0 3000).fn 5 [] h0) = true := by kernel_rfl
noncomputable def E : Env := E0.tell 5 (memo (.bool true))
theorem okE {K : Known} : EnvOk K Try.prog E := by
  obtain ⟨h', hr⟩ := isTrue_inv alive_run
  exact tell_ok ok0 (memo_ok ok0 ((call_le E0 3000).fn _ _ _ _ hr) (by kernel_rfl))
end Go.Proofs.Ytdmakachnphddaa.C
