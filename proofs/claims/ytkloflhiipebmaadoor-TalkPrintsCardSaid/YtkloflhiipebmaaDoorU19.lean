/- U19: the law of parsing: it answers true, whatever the line. -/
import Derived.Test.YtkloflhiipebmaaDoorU13
import Derived.Test.YtkloflhiipebmaaDoorU18
open Go Go.Vi Go.Tk
namespace Go.Proofs.YtkloflhiipebmaaDoor.C
set_option linter.unusedSimpArgs false
set_option maxRecDepth 100000
set_option maxHeartbeats 40000000
theorem refSame_same (a b : TOp) (d1 d2 : Value) (h : Heap) (h1 : RowG h d1 a.data) (h2 : RowG h d2 b.data) (e : a = b) : Ret E f_laminaref25_Same [.agg ⟨opC a d1⟩, .agg ⟨opC b d2⟩] h (fun v h' => Grow h h' ∧ v = .bool true) := by
  refine (refSame_ok a b d1 d2 h h1 h2).mono ?_
  rintro v h' ⟨g, rfl⟩
  exact ⟨g, by rw [decide_eq_true e]⟩
end Go.Proofs.YtkloflhiipebmaaDoor.C
