/- B8: a law's diffs, as they are laid out. -/
import Derived.Test.YthkpbhdljbdliaaHc
import Derived.Test.YthkpbhdljbdliaaMs
import Derived.Test.YthkpbhdljbdliaaVgI
open Go Go.Vi Go.Bm
namespace Go.Proofs.Ythkpbhdljbdliaa.C
theorem c3 : Try.prog.cellsOf 3 = 1 := by kernel_rfl
theorem c4 : Try.prog.cellsOf 4 = 1 := by kernel_rfl
theorem c5 : Try.prog.cellsOf 5 = 1 := by kernel_rfl
theorem cB : Try.prog.cellsOf 25 = 1 := by kernel_rfl
theorem cL : Try.prog.cellsOf 22 = 1 := by kernel_rfl
theorem cR : Try.prog.cellsOf 49 = 4 := by kernel_rfl
theorem cD : Try.prog.cellsOf 24 = 3 := by kernel_rfl
theorem bytes_of {h : Heap} {x : Value} (r : Rep Try.prog h 25 [x]) : ∃ l : List UInt8, BRow h x l ∧ l.length ≤ maxLen := by
  rcases r.slice_inv Try.underlying25 with e | e | ⟨b, row, len, cap, e, hb, hg, hrl, hlc, hp, hcm, hel⟩
  · cases e; exact ⟨[], RowV.nil _ _, Nat.zero_le _⟩
  · cases e; exact ⟨[], RowV.void _ _, Nat.zero_le _⟩
  · cases e
    rw [c5, Nat.mul_one] at hrl
    obtain ⟨l, rfl⟩ := bytes_row Try.underlying5 c5 row cap hrl hel
    rw [List.length_map] at hrl
    have hlen : (l.take len).length = len := by rw [List.length_take]; omega
    refine ⟨l.take len, ?_, by omega⟩
    have := RowV.own (z := 1) hb hlc hg (by rw [List.length_map]; omega)
    rw [Nat.mul_one, ← List.map_take] at this
    exact this
theorem rec_of {h : Heap} {cs : List Value} (r : Rep Try.prog h 49 cs) : ∃ (x : Rec) (d : Value), cs = recC (x, d) ∧ BRow h d x.data ∧ RecOk x := by
  have hl := (r.struct_inv Try.underlying49).1.trans cR
  match cs, hl with
  | [x0, x1, x2, x3], _ =>
  obtain ⟨k0, e0, a0, b0⟩ := (r.field Try.underlying49 0 rfl (n := 1) c3).int_inv Try.underlying3
  have e0 : [x0] = [.int .i64 k0] := e0
  cases e0
  obtain ⟨k1, e1, a1, b1⟩ := (r.field Try.underlying49 1 rfl (n := 1) c3).int_inv Try.underlying3
  have e1 : [x1] = [.int .i64 k1] := e1
  cases e1
  obtain ⟨t2, e2⟩ := (r.field Try.underlying49 2 rfl (n := 1) c4).bool_inv Try.underlying4
  have e2 : [x2] = [.bool t2] := e2
  cases e2
  obtain ⟨l, hb, _⟩ := bytes_of (x := x3) (r.field Try.underlying49 3 rfl (n := 1) cB)
  exact ⟨⟨k0, k1, t2, l⟩, x3, rfl, hb, ⟨a0, b0⟩, ⟨a1, b1⟩⟩
theorem recs_of {h : Heap} {row : List Value} {cap : Nat} (hel : ∀ i, i < cap → Rep Try.prog h 49 ((row.drop (i * 4)).take 4)) : ∀ m, m ≤ cap → ∃ items : List (Rec × Value), items.length = m ∧ items.flatMap recC = row.take (m * 4) ∧ ∀ p ∈ items, BRow h p.2 p.1.data ∧ RecOk p.1 := by
  intro m
  induction m with
  | zero => intro _; exact ⟨[], rfl, by simp, fun _ h => by cases h⟩
  | succ m ih =>
    intro hm
    obtain ⟨items, h1, h2, h3⟩ := ih (by omega)
    obtain ⟨x, d, e, hb, ok⟩ := rec_of (hel m (by omega))
    refine ⟨items ++ [(x, d)], by rw [List.length_append, h1]; rfl, ?_, fun p hp => ?_⟩
    · rw [List.flatMap_append, h2, Nat.succ_mul, List.take_add, e]
      simp
    · rcases List.mem_append.1 hp with hp | hp
      · exact h3 p hp
      · rw [List.mem_singleton] at hp
        subst hp
        exact ⟨hb, ok⟩
theorem recsV_of {h : Heap} {x : Value} (r : Rep Try.prog h 22 [x]) : ∃ rs : List Rec, DRow h x rs ∧ ∀ y ∈ rs, RecOk y := by
  rcases r.slice_inv Try.underlying22 with e | e | ⟨b, row, len, cap, e, hb, hg, hrl, hlc, hp, hcm, hel⟩
  · cases e; exact ⟨[], .nil _, fun _ h => by cases h⟩
  · cases e; exact ⟨[], ⟨[], rfl, RowV.void _ _, fun _ h => by cases h⟩, fun _ h => by cases h⟩
  · cases e
    rw [cR] at hrl
    simp only [cR] at hel
    obtain ⟨items, h1, h2, h3⟩ := recs_of hel len hlc
    refine ⟨items.map (·.1), ⟨items, rfl, ?_, fun p hp => (h3 p hp).1⟩, fun y hy => ?_⟩
    · rw [h2]
      exact RowV.own hb hlc hg (by rw [hrl]; exact Nat.mul_le_mul_right _ hlc)
    · obtain ⟨p, hp, rfl⟩ := List.mem_map.1 hy
      exact (h3 p hp).2
theorem dif_of {h : Heap} {v : Value} (r : RepV Try.prog h 24 v) : ∃ (d : Dif) (w : Value), v = .agg ⟨difC d w⟩ ∧ DRow h w d.recs ∧ DifOk d := by
  unfold RepV at r
  rw [if_pos (by kernel_rfl)] at r
  obtain ⟨cs, rfl, r⟩ := r
  have hl := (r.struct_inv Try.underlying24).1.trans cD
  match cs, hl with
  | [x0, x1, x2], _ =>
  obtain ⟨k0, e0, a0, b0⟩ := (r.field Try.underlying24 0 rfl (n := 1) c3).int_inv Try.underlying3
  have e0 : [x0] = [.int .i64 k0] := e0
  cases e0
  obtain ⟨k1, e1, a1, b1⟩ := (r.field Try.underlying24 1 rfl (n := 1) c3).int_inv Try.underlying3
  have e1 : [x1] = [.int .i64 k1] := e1
  cases e1
  obtain ⟨rs, hr, hok⟩ := recsV_of (x := x2) (r.field Try.underlying24 2 rfl (n := 1) cL)
  exact ⟨⟨k0, k1, rs⟩, x2, rfl, hr, ⟨a0, b0⟩, ⟨a1, b1⟩, hok⟩
end Go.Proofs.Ythkpbhdljbdliaa.C
