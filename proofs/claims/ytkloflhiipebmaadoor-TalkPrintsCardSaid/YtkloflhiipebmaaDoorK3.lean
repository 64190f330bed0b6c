/- K3: the walks: the document's figures of bytes. -/
import Derived.Test.YtkloflhiipebmaaDoorK1
import Derived.BigQuiet
import Derived.Laws.AppendOwn
import Derived.Laws.BytesString
import Derived.Laws.Cells
import Derived.Deep.RegionHeld3
import Derived.Deep.AppendLies
import Derived.Tactics2
import Derived.WalkSpells
import Derived.OwnWalk
open Go Go.Nm Go.Sort Go.RowKit
namespace Go.Proofs.YtkloflhiipebmaaDoor.C
open Go.Vi (strOf KeptW)
theorem push_all : ∀ (l : List UInt8) (s : ByteArray), (l.map fun b => (b.toNat : Int)).foldl (fun r n => r.push (UInt8.ofNat n.toNat)) s = ⟨s.data ++ l.toArray⟩ := by
  intro l
  induction l with
  | nil => intro s; simp
  | cons b l ih =>
    intro s
    simp only [List.map_cons, List.foldl_cons, ih]
    apply ByteArray.ext
    simp [ByteArray.push]
theorem run_str (w : World) (a : Addr) (l : List UInt8) (c : Nat) (h : ∀ j b, l[j]? = some b → w.cell? (a.add j) = some (.int .u8 (b.toNat : Int))) :
    (convert 23 9 (.slice (some a) l.length c)).run Tryd.prog w = .ok (.string (strOf l)) w := by
  rw [run_convert_bytes_string w 23 9 5 (some a) l.length c Tryd.underlying23 Tryd.underlying5 Tryd.underlying9]
  have h1 := run_loadCells_list (P := Tryd.prog) (w := w) a ((l.map fun b => (b.toNat : Int)).map (Value.int .u8)) (fun j v hj => by
    rw [List.getElem?_map, List.getElem?_map] at hj
    cases hb : l[j]? with
    | none => rw [hb] at hj; cases hj
    | some b => rw [hb] at hj; cases hj; exact h j b hb)
  have := run_bytesToString (P := Tryd.prog) w a l.length c (l.map fun b => (b.toNat : Int)) (by simpa using h1)
  rw [this, push_all]
  simp [strOf, ByteArray.empty, ByteArray.emptyWithCapacity]
  try rfl
set_option maxHeartbeats 4000000
set_option maxRecDepth 1000000
theorem info5 : (Tryd.prog.info? 5).map (fun i => (i.zero, i.size, i.bytes)) = some (some (.int .u8 0), 1, 1) := by kernel_rfl
theorem refHex_nil (w : World) (x : Option Addr) (c : Nat) : Calls Tryd.prog 47 #[.slice x 0 c] w fun e w' => e = .returned (.string (strOf [45])) ∧ KeptW w w' := by
  go_enter Tryd.func47, Tryd.ntmps47
  go_wp2
  go_ret
  exact ⟨rfl, .refl w⟩
theorem refHex_some (w : World) (a : Addr) (c : Nat) (l : List UInt8) (hl : l ≠ []) (hn : l.length ≤ 2000) (h : Lies w a l) :
    Calls Tryd.prog 47 #[.slice (some a) l.length c] w fun e w' => e = .returned (.string (strOf (hexL l))) ∧ KeptW w w' := by
  have h0 : 0 < l.length := List.length_pos_iff.2 hl
  have h0' : ((l.length : Int) == 0) = false := by simpa using hl
  go_enter Tryd.func47, Tryd.ntmps47
  go_wp2
  go_loopw [3, 4] (fun v i wr => ∃ k : Nat, k ≤ l.length ∧ i = .int .i64 k ∧ (∃ g cap, v = .slice (some ⟨g, 0, none⟩) (2 * k) cap) ∧ wr.ownsRow w.heap.size 5 1 v (2 * k) (Lib.byteCells (hexL (l.take k))) ∧ Below w.heap.size w wr) (fun _ i _ => l.length - (intOf i).toNat)
  case atStart =>
    refine ⟨0, Nat.zero_le _, rfl, ⟨_, _, rfl⟩, ⟨rfl, .inr ⟨w.heap.size, 0, #[], rfl, Nat.le_refl _, heap_alloc_new w _, Nat.le_refl _, Nat.zero_le _, rfl, rfl⟩⟩, (Below.refl _ w).alloc (Nat.le_refl _) _⟩
  case round =>
    obtain ⟨k, hk, rfl, ⟨g, cap, rfl⟩, hown, hb⟩ := hrel
    have hsz := hb.size
    by_cases hp : k < l.length
    · have hc : wr.cell? (a.add k) = some (.int .u8 ((l[k]).toNat : Int)) := by
        rw [hb.cell (by rw [add_block]; exact h.1)]
        exact h.2 k _ (List.getElem?_eq_getElem hp)
      have ht0 : Lib.byteCells (hexL (l.take (k + 1))) = Lib.byteCells (hexL (l.take k)) ++ [.int .u8 ((sign ((l[k]).toNat / 16)).toNat : Int), .int .u8 ((sign ((l[k]).toNat % 16)).toNat : Int)] := by
        rw [List.take_succ_eq_append_getElem hp, hexL_snoc]
        simp [Lib.byteCells]
      have ht : Hid (Lib.byteCells (hexL (l.take (k + 1))) = Lib.byteCells (hexL (l.take k)) ++ [.int .u8 ((sign ((l[k]).toNat / 16)).toNat : Int), .int .u8 ((sign ((l[k]).toNat % 16)).toNat : Int)]) := ht0
      clear ht0
      generalize Lib.byteCells (hexL (l.take k)) = bs at hown ht
      generalize l[k] = b at hc ht
      have hbl := UInt8.toNat_lt b
      obtain ⟨p, hp1, e1, ep⟩ : ∃ p : Nat, p < 16 ∧ (b.toNat : Int) / 16 = p ∧ b.toNat / 16 = p := ⟨b.toNat / 16, by omega, by omega, rfl⟩
      obtain ⟨q, hq1, e2, eq⟩ : ∃ q : Nat, q < 16 ∧ (b.toNat : Int) % 16 = q ∧ b.toNat % 16 = q := ⟨b.toNat % 16, by omega, by omega, rfl⟩
      have ht : Hid (Lib.byteCells (hexL (l.take (k + 1))) = bs ++ [.int .u8 ((sign p).toNat : Int), .int .u8 ((sign q).toNat : Int)]) := by rw [← ep, ← eq]; exact ht
      clear ep eq
      have e3 : (p : Int) < 16 := by omega
      have e4 : (q : Int) < 16 := by omega
      have e5 : (0 : Int) ≤ p := by omega
      have e6 : (0 : Int) ≤ q := by omega
      have sp := sign_at p hp1
      have sq := sign_at q hq1
      have q1 : IntKind.u8.wrap (p : Int) = p := by rw [IntKind.wrap_u8]; omega
      have q2 : IntKind.u8.wrap (q : Int) = q := by rw [IntKind.wrap_u8]; omega
      have q3 : Int.tdiv (b.toNat : Int) 16 = p := by rw [Int.tdiv_eq_ediv_of_nonneg (by omega), e1]
      have q4 : Int.tmod (b.toNat : Int) 16 = q := by rw [Int.tmod_eq_emod_of_nonneg (by omega), e2]
      obtain ⟨i0, hi0, hz0, hz1, hz2⟩ := info_parts info5
      have hgl : g < wr.heap.size := by
        rcases hown.2 with ⟨hv, _⟩ | ⟨g', c', cur, hv, _, hg, _⟩
        · cases hv
        · cases hv; exact (Array.getElem?_eq_some_iff.1 hg).1
      have hag : a.block ≠ g := by
        rcases hown.2 with ⟨hv, _⟩ | ⟨g', c', cur, hv, hle, hg, _⟩
        · cases hv
        · cases hv; have := h.1; omega
      have hgw : w.heap.size ≤ g := by
        rcases hown.2 with ⟨hv, _⟩ | ⟨g', c', cur, hv, hle, hg, _⟩
        · cases hv
        · cases hv; exact hle
      have hal : a.block < wr.heap.size := Nat.lt_of_lt_of_le h.1 hsz
      clear h e1 e2
      go_wp2_with fail
      go_region_held3 (fun w' => w'.cell? (a.add k) = some (.int .u8 (b.toNat : Int))) (first | go_keep | (rw [hgrow.cell_far _ (by rw [add_block]; simp; omega) (by rw [add_block]; simp [Value.ownBlock]; omega)]; assumption))
        ((refine step_append_lies _ (by rfl) _ _ _ (by rfl) w.heap.size 5 i0 _ 1 1 Tryd.underlying23 hi0 hz0 hz1 hz2 rfl (by omega) _ (2 * k) bs (by rfl) ((hown.alloc _).drew) ⟨wr.heap.size, 0, none⟩ 2 2 [.int .u8 ((sign p).toNat : Int), .int .u8 ((sign q).toNat : Int)] (by rfl) (by rfl) (World.news_of_block (cs := #[.int .u8 ((sign p).toNat : Int), .int .u8 ((sign q).toNat : Int)]) (t := 5) (fr := (0, 0)) (heap_alloc_new wr _)) (by simp [Value.oneCell']) (by omega) (by unfold maxLen; omega) (by omega) (by simp; omega) (wr.heap.size + 1) (by simp) ?_; intro gg cap1 w1 hown1 hgrow hat hlt))
      all_goals
        go_wp2
        go_roundw
        case rel =>
          refine ⟨k + 1, by omega, by go_num, ⟨gg, cap1, rfl⟩, ?_, ?_⟩
          · rw [ht.out]; exact hown1
          · exact (((hb.alloc (by omega) _).drew).grown hgrow (by simp; omega) (fun j hj => by simp [Value.ownBlock] at hj; omega))
        case measure => simp [intOf]; omega
    · obtain rfl : k = l.length := by omega
      rw [List.take_length] at hown
      have hcv : (convert 23 9 (.slice (some ⟨g, 0, none⟩) (2 * l.length) cap)).run Tryd.prog wr = .ok (.string (strOf (hexL l))) wr := by
        have := run_str wr ⟨g, 0, none⟩ (hexL l) cap (fun j b hj => by
          rcases hown.2 with ⟨hv, _⟩ | ⟨g', c', cur, hv, _, hg, _, _, _, htk⟩
          · cases hv
          · cases hv
            have hj0 : (⟨g, 0, none⟩ : Addr).add j = ⟨g, j, none⟩ := by
              unfold Addr.add
              split <;> simp_all
            rw [hj0]
            simp only [World.cell?, hg]
            have h1 : (Lib.byteCells (hexL l))[j]? = some (.int .u8 (b.toNat : Int)) := by simp [Lib.byteCells, hj]
            rw [← htk, List.getElem?_take] at h1
            split at h1
            · simpa using h1
            · cases h1)
        rwa [hexL_len] at this
      clear hown h
      go_wp2
      go_ret
      exact ⟨rfl, kept_of_below hb⟩
end Go.Proofs.YtkloflhiipebmaaDoor.C
