/- B8p: a law's bundles, as they are laid out. -/
import Derived.Test.YtdmakachnphddaaHc
import Derived.Test.YtdmakachnphddaaMa
import Derived.Test.YtdmakachnphddaaVgI
open Go Go.Vi Go.Bm
namespace Go.Proofs.Ytdmakachnphddaa.C
set_option maxRecDepth 100000
theorem c3 : Try.prog.cellsOf 3 = 1 := by kernel_rfl
theorem c4 : Try.prog.cellsOf 4 = 1 := by kernel_rfl
theorem c5 : Try.prog.cellsOf 5 = 1 := by kernel_rfl
theorem bytes_of {h : Heap} {x : Value} (r : Rep Try.prog h 37 [x]) : ∃ l : List UInt8, BRow h x l ∧ l.length ≤ maxLen := by
  rcases r.slice_inv Try.underlying37 with e | e | ⟨b, row, len, cap, e, hb, hg, hrl, hlc, hp, hcm, hel⟩
  · cases e; exact ⟨[], RowV.nil _ _, Nat.zero_le _⟩
  · cases e; exact ⟨[], RowV.void _ _, Nat.zero_le _⟩
  · cases e
    rw [c5, Nat.mul_one] at hrl
    obtain ⟨l, rfl⟩ := bytes_row Try.underlying5 c5 row cap hrl hel
    rw [List.length_map] at hrl
    have hlen : (l.take len).length = len := by rw [List.length_take]; omega
    refine ⟨l.take len, ?_, by omega⟩
    have := RowV.own (z := 1) hb hlc hg (by rw [List.length_map]; omega)
    rw [Nat.mul_one, ← List.map_take] at this
    exact this
theorem c9 : Try.prog.cellsOf 9 = 1 := by kernel_rfl
end Go.Proofs.Ytdmakachnphddaa.C
