/- B8p: a law's bundles, as they are laid out. -/
import Derived.Test.YtdmakachnphddaaHc
import Derived.Test.YtdmakachnphddaaMa
import Derived.Test.YtdmakachnphddaaVgI
open Go Go.Vi Go.Bm
namespace Go.Proofs.Ytdmakachnphddaa.C
set_option maxRecDepth 100000
theorem c3 : Try.prog.cellsOf 3 = 1 := by kernel_rfl
theorem c4 : Try.prog.cellsOf 4 = 1 := by kernel_rfl
theorem c5 : Try.prog.cellsOf 5 = 1 := by kernel_rfl
theorem cB : Try.prog.cellsOf 37 = 1 := by kernel_rfl
theorem cL : Try.prog.cellsOf 23 = 1 := by kernel_rfl
theorem cR : Try.prog.cellsOf 105 = 4 := by kernel_rfl
theorem cD : Try.prog.cellsOf 25 = 3 := by kernel_rfl
theorem bytes_of {h : Heap} {x : Value} (r : Rep Try.prog h 37 [x]) : ∃ l : List UInt8, BRow h x l ∧ l.length ≤ maxLen := by
  rcases r.slice_inv Try.underlying37 with e | e | ⟨b, row, len, cap, e, hb, hg, hrl, hlc, hp, hcm, hel⟩
  · cases e; exact ⟨[], RowV.nil _ _, Nat.zero_le _⟩
  · cases e; exact ⟨[], RowV.void _ _, Nat.zero_le _⟩
  · cases e
    rw [c5, Nat.mul_one] at hrl
    obtain ⟨l, rfl⟩ := bytes_row Try.underlying5 c5 row cap hrl hel
    rw [List.length_map] at hrl
    have hlen : (l.take len).length = len := by rw [List.length_take]; omega
    refine ⟨l.take len, ?_, by omega⟩
    have := RowV.own (z := 1) hb hlc hg (by rw [List.length_map]; omega)
    rw [Nat.mul_one, ← List.map_take] at this
    exact this
theorem rec_of {h : Heap} {cs : List Value} (r : Rep Try.prog h 105 cs) : ∃ (x : Rec) (d : Value), cs = recC (x, d) ∧ BRow h d x.data ∧ RecOk x := by
  have hl := (r.struct_inv Try.underlying105).1.trans cR
  match cs, hl with
  | [x0, x1, x2, x3], _ =>
  obtain ⟨k0, e0, a0, b0⟩ := (r.field Try.underlying105 0 rfl (n := 1) c3).int_inv Try.underlying3
  have e0 : [x0] = [.int .i64 k0] := e0
  cases e0
  obtain ⟨k1, e1, a1, b1⟩ := (r.field Try.underlying105 1 rfl (n := 1) c3).int_inv Try.underlying3
  have e1 : [x1] = [.int .i64 k1] := e1
  cases e1
  obtain ⟨t2, e2⟩ := (r.field Try.underlying105 2 rfl (n := 1) c4).bool_inv Try.underlying4
  have e2 : [x2] = [.bool t2] := e2
  cases e2
  obtain ⟨l, hb, _⟩ := bytes_of (x := x3) (r.field Try.underlying105 3 rfl (n := 1) cB)
  exact ⟨⟨k0, k1, t2, l⟩, x3, rfl, hb, ⟨a0, b0⟩, ⟨a1, b1⟩⟩
theorem recs_of {h : Heap} {row : List Value} {cap : Nat} (hel : ∀ i, i < cap → Rep Try.prog h 105 ((row.drop (i * 4)).take 4)) : ∀ m, m ≤ cap → ∃ items : List (Rec × Value), items.length = m ∧ items.flatMap recC = row.take (m * 4) ∧ ∀ p ∈ items, BRow h p.2 p.1.data ∧ RecOk p.1 := by
  intro m
  induction m with
  | zero => intro _; exact ⟨[], rfl, by simp, fun _ h => by cases h⟩
  | succ m ih =>
    intro hm
    obtain ⟨items, h1, h2, h3⟩ := ih (by omega)
    obtain ⟨x, d, e, hb, ok⟩ := rec_of (hel m (by omega))
    refine ⟨items ++ [(x, d)], by rw [List.length_append, h1]; rfl, ?_, fun p hp => ?_⟩
    · rw [List.flatMap_append, h2, Nat.succ_mul, List.take_add, e]
      simp
    · rcases List.mem_append.1 hp with hp | hp
      · exact h3 p hp
      · rw [List.mem_singleton] at hp
        subst hp
        exact ⟨hb, ok⟩
theorem recsV_of {h : Heap} {x : Value} (r : Rep Try.prog h 23 [x]) : ∃ rs : List Rec, DRow h x rs ∧ ∀ y ∈ rs, RecOk y := by
  rcases r.slice_inv Try.underlying23 with e | e | ⟨b, row, len, cap, e, hb, hg, hrl, hlc, hp, hcm, hel⟩
  · cases e; exact ⟨[], .nil _, fun _ h => by cases h⟩
  · cases e; exact ⟨[], ⟨[], rfl, RowV.void _ _, fun _ h => by cases h⟩, fun _ h => by cases h⟩
  · cases e
    rw [cR] at hrl
    simp only [cR] at hel
    obtain ⟨items, h1, h2, h3⟩ := recs_of hel len hlc
    refine ⟨items.map (·.1), ⟨items, rfl, ?_, fun p hp => (h3 p hp).1⟩, fun y hy => ?_⟩
    · rw [h2]
      exact RowV.own hb hlc hg (by rw [hrl]; exact Nat.mul_le_mul_right _ hlc)
    · obtain ⟨p, hp, rfl⟩ := List.mem_map.1 hy
      exact (h3 p hp).2
theorem c9 : Try.prog.cellsOf 9 = 1 := by kernel_rfl
theorem cPs : Try.prog.cellsOf 22 = 1 := by kernel_rfl
theorem cP : Try.prog.cellsOf 62 = 5 := by kernel_rfl
theorem cBu : Try.prog.cellsOf 27 = 5 := by kernel_rfl
theorem difc_of {h : Heap} {cs : List Value} (r : Rep Try.prog h 25 cs) : ∃ (d : Dif) (w : Value), cs = difC d w ∧ DRow h w d.recs := by
  have hl := (r.struct_inv Try.underlying25).1.trans cD
  match cs, hl with
  | [x0, x1, x2], _ =>
  obtain ⟨k0, e0, a0, b0⟩ := (r.field Try.underlying25 0 rfl (n := 1) c3).int_inv Try.underlying3
  have e0 : [x0] = [.int .i64 k0] := e0
  cases e0
  obtain ⟨k1, e1, a1, b1⟩ := (r.field Try.underlying25 1 rfl (n := 1) c3).int_inv Try.underlying3
  have e1 : [x1] = [.int .i64 k1] := e1
  cases e1
  obtain ⟨rs, hr, hok⟩ := recsV_of (x := x2) (r.field Try.underlying25 2 rfl (n := 1) cL)
  exact ⟨⟨k0, k1, rs⟩, x2, rfl, hr⟩
theorem part_of {h : Heap} {cs : List Value} (r : Rep Try.prog h 62 cs) : ∃ (p : Part) (d : Value), cs = partC (p, d) ∧ DRow h d p.diff.recs := by
  have hl := (r.struct_inv Try.underlying62).1.trans cP
  match cs, hl with
  | [x0, x1, x2, x3, x4], _ =>
  obtain ⟨s, e0, _⟩ := (r.field Try.underlying62 0 rfl (n := 1) c9).string_inv Try.underlying9
  have e0 : [x0] = [.string (strOf s)] := e0
  cases e0
  obtain ⟨t1, e1⟩ := (r.field Try.underlying62 1 rfl (n := 1) c4).bool_inv Try.underlying4
  have e1 : [x1] = [.bool t1] := e1
  cases e1
  obtain ⟨d, w, e2, hd⟩ := difc_of (r.field Try.underlying62 2 rfl (n := 3) cD)
  have e2 : [x2, x3, x4] = [.int .i64 d.fr, .int .i64 d.to, w] := e2
  cases e2
  exact ⟨⟨s, t1, d⟩, _, rfl, hd⟩
theorem parts_of {h : Heap} {row : List Value} {cap : Nat} (hel : ∀ i, i < cap → Rep Try.prog h 62 ((row.drop (i * 5)).take 5)) : ∀ m, m ≤ cap → ∃ items : List (Part × Value), items.length = m ∧ items.flatMap partC = row.take (m * 5) ∧ ∀ p ∈ items, DRow h p.2 p.1.diff.recs := by
  intro m
  induction m with
  | zero => intro _; exact ⟨[], rfl, by simp, fun _ h => by cases h⟩
  | succ m ih =>
    intro hm
    obtain ⟨items, h1, h2, h3⟩ := ih (by omega)
    obtain ⟨x, d, e, hb⟩ := part_of (hel m (by omega))
    refine ⟨items ++ [(x, d)], by rw [List.length_append, h1]; rfl, ?_, fun p hp => ?_⟩
    · rw [List.flatMap_append, h2, Nat.succ_mul, List.take_add, e]
      simp
    · rcases List.mem_append.1 hp with hp | hp
      · exact h3 p hp
      · rw [List.mem_singleton] at hp
        subst hp
        exact hb
theorem partsV_of {h : Heap} {x : Value} (r : Rep Try.prog h 22 [x]) : ∃ ps : List Part, PRow h x ps := by
  rcases r.slice_inv Try.underlying22 with e | e | ⟨b, row, len, cap, e, hb, hg, hrl, hlc, hp, hcm, hel⟩
  · cases e; exact ⟨[], .nil _⟩
  · cases e; exact ⟨[], ⟨[], rfl, RowV.void _ _, fun _ h => by cases h⟩⟩
  · cases e
    rw [cP] at hrl
    simp only [cP] at hel
    obtain ⟨items, h1, h2, h3⟩ := parts_of hel len hlc
    refine ⟨items.map (·.1), ⟨items, rfl, ?_, h3⟩⟩
    rw [h2]
    exact RowV.own hb hlc hg (by rw [hrl]; exact Nat.mul_le_mul_right _ hlc)
theorem bun_of {h : Heap} {v : Value} (r : RepV Try.prog h 27 v) : ∃ (b : Bun) (p w : Value), v = .agg ⟨bunC b p w⟩ ∧ PRow h p b.parts ∧ DRow h w b.last.recs := by
  unfold RepV at r
  rw [if_pos (by kernel_rfl)] at r
  obtain ⟨cs, rfl, r⟩ := r
  have hl := (r.struct_inv Try.underlying27).1.trans cBu
  match cs, hl with
  | [x0, x1, x2, x3, x4], _ =>
  obtain ⟨k0, e0, a0, b0⟩ := (r.field Try.underlying27 0 rfl (n := 1) c3).int_inv Try.underlying3
  have e0 : [x0] = [.int .i64 k0] := e0
  cases e0
  obtain ⟨ps, hps⟩ := partsV_of (x := x1) (r.field Try.underlying27 1 rfl (n := 1) cPs)
  obtain ⟨d, w, e2, hd⟩ := difc_of (r.field Try.underlying27 2 rfl (n := 3) cD)
  have e2 : [x2, x3, x4] = [.int .i64 d.fr, .int .i64 d.to, w] := e2
  cases e2
  exact ⟨⟨k0, ps, d⟩, x1, _, rfl, hps, hd⟩
end Go.Proofs.Ytdmakachnphddaa.C
