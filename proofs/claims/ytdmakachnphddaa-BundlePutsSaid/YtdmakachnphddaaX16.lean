/- X16: the law of what is taken: it answers true, whatever the bytes. -/
import Derived.Test.YtdmakachnphddaaX15
open Go Go.Vi Go.Bm
namespace Go.Proofs.Ytdmakachnphddaa.C
set_option linter.unusedSimpArgs false
set_option maxRecDepth 100000
set_option maxHeartbeats 40000000
theorem PNew.keep {base : Nat} {h h' : Heap} {v : Value} {ps : List Part} (x : PNew base h v ps) (hn : h.next ≤ h'.next) (g : ∀ c, base ≤ c → c < h.next → h'.get c = h.get c) : PNew base h' v ps := by
  obtain ⟨items, h1, h2, h4, h3⟩ := x
  exact ⟨items, h1, RowV.keep h2 hn fun c hc hlt => g c (h4 c hc) hlt, h4, fun p hp => DNew.keep (h3 p hp) hn g⟩
end Go.Proofs.Ytdmakachnphddaa.C
