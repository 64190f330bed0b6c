/- W11: the diff of a stream, as the document takes it. -/
import Derived.Test.YtdmakachnphddaaW10
import Derived.Test.YtdmakachnphddaaVgI
open Go Go.Vi Go.Bm
namespace Go.Proofs.Ytdmakachnphddaa.C
set_option linter.unusedSimpArgs false
set_option maxRecDepth 100000
set_option maxHeartbeats 40000000
theorem Rdr.bad {o : Nat} {h : Heap} {p : Nat} {r : Rd} (x : Rdr o h p r) : ∃ a c, h.get p = some (.cells [.slice a (lf r - 1) c, .bool r.isNone] true none) := by
  cases r with
  | none => exact ⟨_, _, x.2⟩
  | some l =>
    obtain ⟨_, _, v, hg, hv, _⟩ := x
    obtain ⟨a, c, rfl⟩ := hv.is
    exact ⟨a, c, hg⟩
theorem BRow.within {h : Heap} {d : Value} {l : List UInt8} {c : Nat} (x : BRow h d l) (hc : blkOf d = some c) (h0 : 0 < c) : c < h.next := by
  rcases x with ⟨rfl | rfl, _⟩ | ⟨b2, o2, n, c2, row, w, q, hb2, rfl, _⟩
  · cases hc
  · cases hc; exact absurd h0 (by decide)
  · cases hc; exact hb2
end Go.Proofs.Ytdmakachnphddaa.C
