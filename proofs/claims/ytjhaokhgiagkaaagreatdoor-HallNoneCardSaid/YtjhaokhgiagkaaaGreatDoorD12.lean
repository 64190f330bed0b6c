/- D12: a disk and what waits, as contracts. -/
import Derived.Test.YtjhaokhgiagkaaaGreatDoorD11
open Go Go.Vi Go.Bm
namespace Go.Proofs.YtjhaokhgiagkaaaGreatDoor.C
set_option linter.unusedSimpArgs false
set_option maxRecDepth 100000
set_option maxHeartbeats 40000000
def atN (h : Heap) (n : Nat) : Heap := { h with next := n }
theorem atN_grow {h : Heap} {n : Nat} (hn : n ≤ h.next) : Grow (atN h n) h := ⟨hn, fun _ _ => rfl⟩
structure LiveN (N : Nat) (d : Dk) : Prop where
  armed : d.armed = false
  gone : d.gone = false
  s0 : 0 ≤ d.steps
  s1 : d.steps + (N : Int) < 4611686018427387904
  l0 : d.left ≤ 0
  l1 : -4611686018427387904 < d.left - (N : Int)
theorem LiveN.live {N : Nat} {d : Dk} (x : LiveN (N + 1) d) : Live d := ⟨x.armed, x.gone, x.s0, by have := x.s1; omega, x.l0, by have := x.l1; omega⟩
theorem LiveN.step {N : Nat} {d : Dk} {w : Value} (x : LiveN (N + 1) d) : LiveN N { d.step with wait := w } :=
  ⟨x.armed, x.gone, by have := x.s0; show 0 ≤ d.steps + 1; omega, by have := x.s1; show d.steps + 1 + (N : Int) < _; omega, by have := x.l0; show d.left - 1 ≤ 0; omega, by have := x.l1; show _ < d.left - 1 - (N : Int); omega⟩
def DW (n0 N : Nat) (h : Heap) (p m : Nat) (size : Int) (ws : List (Int × List UInt8)) (f : Int → List UInt8) : Prop := ∃ d, DkAt h p d ∧ LiveN N d ∧ d.size = size ∧ d.sure = .map (some m) ∧ SureIs h m f ∧ p < n0 ∧ m < n0 ∧ p ≠ m ∧ n0 ≤ h.next ∧
  Own (atN h n0) h 129 t_disk_write d.wait (ws.flatMap wrC) ∧ ∀ w ∈ ws, w.2.length = 128
structure Frm (n0 p m : Nat) (h h' : Heap) : Prop where
  next : h.next ≤ h'.next
  get : ∀ c, c < n0 → c ≠ p → c ≠ m → h'.get c = h.get c
theorem Frm.trans {n0 p m : Nat} {a b c : Heap} (x : Frm n0 p m a b) (y : Frm n0 p m b c) : Frm n0 p m a c := ⟨Nat.le_trans x.next y.next, fun k h1 h2 h3 => (y.get k h1 h2 h3).trans (x.get k h1 h2 h3)⟩
theorem Frm.of {n0 p m : Nat} {h h' : Heap} (g : Grow h h') (hn : n0 ≤ h.next) : Frm n0 p m h h' := ⟨g.next, fun c hc _ _ => g.get c (by omega)⟩
theorem Frm.down {n0 n1 p m : Nat} {h h' : Heap} (x : Frm n0 p m h h') (hn : n1 ≤ n0) : Frm n1 p m h h' := ⟨x.next, fun c hc => x.get c (by omega)⟩
theorem Frm.row {n0 p m z : Nat} {h h' : Heap} {d : Value} {l : List Value} (x : Frm n0 p m h h') (hn : h.next ≤ n0) (r : RowV h z d l) (ha : ∀ b, blkOf d = some b → b ≠ p ∧ b ≠ m) : RowV h' z d l :=
  r.keep x.next fun b hb hlt => x.get b (by omega) (ha b hb).1 (ha b hb).2
theorem DW.grow {n0 N p m : Nat} {h h' : Heap} {size : Int} {ws : List (Int × List UInt8)} {f : Int → List UInt8} (x : DW n0 N h p m size ws f) (g : Grow h h') : DW n0 N h' p m size ws f := by
  obtain ⟨d, h1, h2, h3, h4, h5, h6, h7, h8, h9, h10, h11⟩ := x
  exact ⟨d, (g.get p (by omega)).trans h1, h2, h3, h4, h5.keep (g.get m (by omega)), h6, h7, h8, by have := g.next; omega, (h10.grow g).since (Nat.le_refl _), h11⟩
theorem own_empty {h0 h : Heap} {z elem : Nat} {d : Value} (o : Own h0 h z elem d []) (hz : 0 < z) : d = .slice none 0 0 := by
  rcases o with ⟨e, _⟩ | ⟨b, n, _, hn, hl, _⟩
  · exact e
  · have : 0 < n * z := Nat.mul_pos hn hz
    rw [List.length_nil] at hl
    omega
theorem DW.base {n0 n1 N p m : Nat} {h : Heap} {size : Int} {f : Int → List UInt8} (x : DW n0 N h p m size [] f) (hn : n1 ≤ h.next) (hp : p < n1) (hm : m < n1) : DW n1 N h p m size [] f := by
  obtain ⟨d, h1, h2, h3, h4, h5, h6, h7, h8, h9, h10, h11⟩ := x
  have := own_empty h10 (by decide)
  exact ⟨d, h1, h2, h3, h4, h5, hp, hm, h8, hn, by rw [this]; exact .nil _ _ _ _, h11⟩
theorem flat129 {ws : List (Int × List UInt8)} (h : ∀ w ∈ ws, w.2.length = 128) : (ws.flatMap wrC).length = 129 * ws.length := by
  rw [flat_len (f := wrC) (z := 129) fun y hy => wrC_len y (h y hy), Nat.mul_comm]
theorem put_w {n0 N p m : Nat} {h : Heap} {size : Int} {ws : List (Int × List UInt8)} {f : Int → List UInt8} (x : DW n0 (N + 1) h p m size ws f) (i k g n : Int) (v : Value) (da : List UInt8) (hi : 0 ≤ i ∧ i < size) (hn : ws.length ≤ 10000) (hv : BRow h v da)
    (hk : 1 ≤ k ∧ k ≤ 255) (hg : 0 ≤ g ∧ g ≤ 4611686018427387904) (hn2 : 0 ≤ n ∧ n ≤ 2147483647) (hda : da.length ≤ 106) :
    Ret E f_journal_put [.pointer (some ⟨p, 0, none⟩), .int .i64 i, .agg ⟨[.int .i64 k, .int .i64 g, .int .i64 n, v]⟩] h fun u h' => u = .nilIface ∧ DW n0 N h' p m size (ws ++ [(i, sealS k g n da)]) f ∧ Frm n0 p m h h' := by
  obtain ⟨d, h1, h2, h3, h4, h5, h6, h7, h8, h9, h10, h11⟩ := x
  have hb : ∀ b, blkOf d.wait = some b → n0 ≤ b := fun b hb => (h10.lt hb).1
  refine (put_ok (atN h 0) h p i d ws k g n v da h1 h2.live (atN_grow (Nat.zero_le _)) ⟨Nat.zero_le _, by omega⟩ (h10.since (Nat.zero_le _)) (fun e => by have := hb p e; omega) (by rw [h3]; exact hi) hn (flat129 h11) hv hk hg hn2 hda).mono ?_
  rintro u h' ⟨rfl, w', d1, o1, b1, n1, k1⟩
  have hfr : ∀ c, c < n0 → c ≠ p → h'.get c = h.get c := fun c hc hp => k1 c (by omega) hp fun e => by have := hb c e; omega
  refine ⟨rfl, ⟨_, d1, h2.step, h3, h4, h5.keep (hfr m h7 (fun e => h8 e.symm)), h6, h7, h8, by omega, ?_, ?_⟩, ⟨n1, fun c hc hp _ => hfr c hc hp⟩⟩
  · rcases o1 with o1 | ⟨b, q, e, r1, r2, r3, r4, r5⟩
    · exact .inl o1
    · exact .inr ⟨b, q, e, r1, r2, by have := b1 b (by rw [e]; rfl); show n0 ≤ b; omega, r4, r5⟩
  · intro w hw
    rcases List.mem_append.1 hw with hw | hw
    · exact h11 w hw
    · rw [List.mem_singleton] at hw
      rw [hw]
      exact sealS_len k g n da hda
theorem flush_w {n0 N p m : Nat} {h : Heap} {size : Int} {ws : List (Int × List UInt8)} {f : Int → List UInt8} (x : DW n0 (N + 1) h p m size ws f) (hn : ws.length ≤ 10000) :
    Ret E f_p_disk_Disk_Flush [.pointer (some ⟨p, 0, none⟩)] h fun u h' => u = .nilIface ∧ DW n0 N h' p m size [] (ws.foldl upd f) ∧ Frm n0 p m h h' := by
  obtain ⟨d, h1, h2, h3, h4, h5, h6, h7, h8, h9, h10, h11⟩ := x
  have hb : ∀ b, blkOf d.wait = some b → n0 ≤ b := fun b hb => (h10.lt hb).1
  refine (flush_ok (atN h n0) h p m d ws f h1 h2.live h4 h5 (by omega) (by omega) h8 h10 (fun e => by have := hb p e; omega) h11 hn).mono ?_
  rintro u h' ⟨rfl, d1, s1, n1, k1⟩
  exact ⟨rfl, ⟨_, d1, h2.step, h3, h4, s1, h6, h7, h8, by omega, .nil _ _ _ _, fun _ h => nomatch h⟩, ⟨n1, fun c hc hp hm => k1 c (by omega) hp hm⟩⟩
end Go.Proofs.YtjhaokhgiagkaaaGreatDoor.C
