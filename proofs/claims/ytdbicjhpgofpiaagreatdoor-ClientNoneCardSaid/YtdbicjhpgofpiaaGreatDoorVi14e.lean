/- Vi14e: an operation that is ready: what it reads, and where it stands among the heavy ones. -/
import Derived.Test.YtdbicjhpgofpiaaGreatDoorVi14d
namespace Go.Vi
section
variable {P : Program} {E : Env} {call : CallV} {ops : Array Oper} {T : Nat → Tmps} {H : Nat → Heap} {V : Nat → Value} {D : List Deferred} {rd : Option Nat}
variable {ρ0 : Map} {w0 : World} {L : Nat → Prop} {k : Nat} {ρ : Map} {TL : Tmps} {a : Act} {w : World}

theorem filter_len_le {p : Nat → Bool} : ∀ (l : List Nat) (k : Nat), (∀ m c, l[m]? = some c → p c = true → m < k) → (l.filter p).length ≤ k := by
  intro l
  induction l with
  | nil => intro k _; exact Nat.zero_le _
  | cons x l ih =>
    intro k h
    rw [List.filter_cons]
    split
    · rename_i hp
      have h0 := h 0 x rfl hp
      have := ih (k - 1) (fun m c hm hc => by have := h (m + 1) c (by simpa using hm) hc; omega)
      simp only [List.length_cons]; omega
    · cases k with
      | zero =>
        have := ih 0 (fun m c hm hc => by have := h (m + 1) c (by simpa using hm) hc; omega)
        omega
      | succ k =>
        have := ih k (fun m c hm hc => by have := h (m + 1) c (by simpa using hm) hc; omega)
        omega
theorem take_len_ge {p : Nat → Bool} : ∀ (l : List Nat) (k : Nat), k ≤ l.length → (∀ m c, m < k → l[m]? = some c → p c = true) → k ≤ (l.takeWhile p).length := by
  intro l
  induction l with
  | nil => intro k hk _; simpa using hk
  | cons x l ih =>
    intro k hk h
    cases k with
    | zero => exact Nat.zero_le _
    | succ k =>
      rw [List.takeWhile_cons, if_pos (h 0 x (by omega) rfl)]
      have := ih k (by simpa using hk) (fun m c hm hc => h (m + 1) c (by omega) (by simpa using hc))
      simp only [List.length_cons]; omega

variable {p : Plan} (pi : PlanIs ops p) (hd : DownC ops L) {i : Nat} {o : Oper} (ho : ops[i]? = some o) (hi : ¬ L i) (hb : ∀ e ∈ o.after.toList, Region.binds .any e = true → L e.on)
include pi hd ho hi hb
theorem ready_bit {j : Nat} (h : ((befores ops).getD i 0).testBit j = true) : L j := by
  have _ := hi
  exact down_bit pi.edges hd i j (fun o' ho' => by rw [ho] at ho'; cases ho'; exact hb) h
theorem ready_not {j : Nat} (hj : L j) : ((befores ops).getD j 0).testBit i = false := by
  have _ := ho
  have _ := hb
  cases h : ((befores ops).getD j 0).testBit i with
  | false => rfl
  | true => exact absurd (down_bit pi.edges hd j i (fun o' ho' => hd j o' hj ho') h) hi
theorem ready_last : ∀ j' o', L j' → ops[j']? = some o' → ∀ d, o'.dst = some d → o.dst = some d → j' ≤ i := by
  intro j' o' h1 h2 d h3 h4
  rcases slots_of pi ho h2 h3 (.inr h4) with h | h | h
  · omega
  · have := befores_lt ops pi.edges i j' h; omega
  · rw [ready_not pi hd ho hi hb h1] at h; cases h
theorem ready_tmp (tr : Tr E call ops 0 T H V) (iv : Inv E ops T H V D ρ0 w0 L k ρ TL a w) {d : Tmp} (hm : d ∈ tmpsOf ops o) : TL.getD d undef = (T i).getD d undef := by
  obtain ⟨d', hdd⟩ : ∃ d' : Nat, d' = d := ⟨d, rfl⟩
  subst hdd
  have hlt : i < ops.size := (Array.getElem?_eq_some_iff.1 ho).1
  have hl1 := iv.tl
  have hl2 := T_len tr i (Nat.le_of_lt hlt)
  by_cases hd0 : d' < (T 0).length
  · refine (iv.slot d' hd0).uniq (slot_text tr hd0 i (Nat.le_of_lt hlt)) fun j x hx hxd => ?_
    rcases slots_of pi ho hx hxd (.inl hm) with h | h | h
    · subst h; exact ⟨fun h => absurd h hi, fun h => by omega⟩
    · exact ⟨fun _ => befores_lt ops pi.edges i j h, fun _ => ready_bit pi hd ho hi hb h⟩
    · refine ⟨fun h' => ?_, fun h' => ?_⟩
      · rw [ready_not pi hd ho hi hb h'] at h; cases h
      · have := befores_lt ops pi.edges j i h; omega
  · rw [List.getD_eq_getElem?_getD, List.getD_eq_getElem?_getD, List.getElem?_eq_none (by omega), List.getElem?_eq_none (by omega)]
theorem ready_ev (tr : Tr E call ops 0 T H V) (iv : Inv E ops T H V D ρ0 w0 L k ρ TL a w) : ∀ x ∈ o.op.operands, evV TL x = evV (T i) x := by
  intro x hx
  cases x with
  | tmp d =>
    refine ready_tmp pi hd ho hi hb tr iv (d := d) ?_
    unfold tmpsOf
    rw [List.mem_append]
    left
    rw [List.mem_filterMap]
    exact ⟨.tmp d, by simpa using hx, rfl⟩
  | const v => rfl
  | global g => rfl
  | func f => rfl
theorem ready_wanted (tr : Tr E call ops 0 T H V) (iv : Inv E ops T H V D ρ0 w0 L k ρ TL a w) : wantedV ops o TL = wantedV ops o (T i) := by
  have hlt : i < ops.size := (Array.getElem?_eq_some_iff.1 ho).1
  have hl : TL.length = (T i).length := by rw [iv.tl, T_len tr i (Nat.le_of_lt hlt)]
  have key : ∀ (g : Nat) (want : Bool), o.guard = some (g, want) → ((ops[g]?).bind (·.dst)).bind (TL[·]?) = ((ops[g]?).bind (·.dst)).bind ((T i)[·]?) := by
    intro g want hg
    cases hq : (ops[g]?).bind (·.dst) with
    | none => rfl
    | some d =>
      have hm : d ∈ tmpsOf ops o := by
        unfold tmpsOf
        rw [List.mem_append]
        right
        rw [hg]
        simp only [hq]
        exact List.mem_singleton.2 rfl
      have h1 := ready_tmp pi hd ho hi hb tr iv hm
      obtain ⟨d', hdd⟩ : ∃ d' : Nat, d' = d := ⟨d, rfl⟩
      subst hdd
      show TL[d']? = (T i)[d']?
      by_cases h : d' < TL.length
      · have h' : d' < (T i).length := by omega
        rw [List.getD_eq_getElem?_getD, List.getD_eq_getElem?_getD, List.getElem?_eq_getElem h, List.getElem?_eq_getElem h'] at h1
        rw [List.getElem?_eq_getElem h, List.getElem?_eq_getElem h']
        simpa using h1
      · rw [List.getElem?_eq_none (by omega), List.getElem?_eq_none (by omega)]
  unfold wantedV
  cases hg : o.guard with
  | none => rfl
  | some q =>
    obtain ⟨g, want⟩ := q
    simp only [key g want hg]
theorem ready_lo (iv : Inv E ops T H V D ρ0 w0 L k ρ TL a w) : p.lo.getD i 0 ≤ k := by
  have hlt : i < ops.size := (Array.getElem?_eq_some_iff.1 ho).1
  have e : p.lo.getD i 0 = ((hidx ops).filter fun c => ((befores ops).getD i 0).testBit c).length := by
    rw [pi.lo, List.getD_eq_getElem?_getD, List.getElem?_map, List.getElem?_range hlt]; rfl
  rw [e]
  refine filter_len_le _ _ fun m c hm hc => ?_
  exact (iv.cnt m c hm).1 (ready_bit pi hd ho hi hb hc)
theorem ready_hi (iv : Inv E ops T H V D ρ0 w0 L k ρ TL a w) : k ≤ p.hi.getD i 0 := by
  have hlt : i < ops.size := (Array.getElem?_eq_some_iff.1 ho).1
  have e : p.hi.getD i 0 = ((hidx ops).takeWhile fun c => !((befores ops).getD c 0).testBit i).length := by
    rw [pi.hi, List.getD_eq_getElem?_getD, List.getElem?_map, List.getElem?_range hlt]; rfl
  rw [e]
  refine take_len_ge _ _ iv.kle fun m c hm hc => ?_
  rw [ready_not pi hd ho hi hb ((iv.cnt m c hc).2 hm)]; rfl
/-- a heavy operation that is ready is the next of the heavy ones. -/
theorem ready_heavy (iv : Inv E ops T H V D ρ0 w0 L k ρ TL a w) (hh : heavyOp o = true) : (hidx ops)[k]? = some i := by
  have hlt : i < ops.size := (Array.getElem?_eq_some_iff.1 ho).1
  obtain ⟨m, hm⟩ := hidx_has hlt (by unfold heavyAt; rw [ho]; exact hh)
  have h1 : ¬ m < k := fun h => hi ((iv.cnt m i hm).2 h)
  by_cases h2 : m = k
  · subst h2; exact hm
  · exfalso
    have hml := (List.getElem?_eq_some_iff.1 hm).1
    have h3 : (hidx ops)[m - 1]? = some ((hidx ops)[m - 1]'(by omega)) := List.getElem?_eq_getElem (by omega)
    have h4 := chain_get _ pi.chain (m - 1) _ i h3 (by rw [show m - 1 + 1 = m by omega]; exact hm)
    have := (iv.cnt (m - 1) _ h3).1 (ready_bit pi hd ho hi hb h4)
    omega
theorem ready_light (iv : Inv E ops T H V D ρ0 w0 L k ρ TL a w) (hh : heavyOp o = false) : i ≠ nx ops k := by
  have _ := pi
  have _ := hd
  have _ := hi
  have _ := hb
  have _ := iv
  intro h
  have hlt : i < ops.size := (Array.getElem?_eq_some_iff.1 ho).1
  unfold nx at h
  cases hq : (hidx ops)[k]? with
  | none => rw [hq] at h; simp at h; omega
  | some c =>
    rw [hq] at h
    simp at h
    subst h
    have := (hidx_mem hq).2
    unfold heavyAt at this
    rw [ho] at this
    simp only [hh] at this
    cases this
omit pi hd hb in
theorem ready_win (rk : RowOk P E) (ck : CallOk P call) (tr : Tr E call ops 0 T H V) (win : Win ρ0 (H 0) (H ops.size)) (iv : Inv E ops T H V D ρ0 w0 L k ρ TL a w) : Win ρ (H i) (H (i + 1)) := by
  intro b h1 h2
  have hlt : i < ops.size := (Array.getElem?_eq_some_iff.1 ho).1
  have n1 := next_le' rk ck tr (Nat.zero_le i) (Nat.le_of_lt hlt)
  have n2 := next_le' rk ck tr (show i + 1 ≤ ops.size by omega) (Nat.le_refl _)
  cases hq : ρ b with
  | none => rfl
  | some x =>
    obtain ⟨j, hj, hjlt, h3, h4⟩ := iv.dom b (win b (by omega) (by omega)) (by rw [hq]; simp)
    exfalso
    rcases Nat.lt_trichotomy j i with h | h | h
    · have := next_le' rk ck tr (show j + 1 ≤ i by omega) (Nat.le_of_lt hlt); omega
    · subst h; exact hi hj
    · have := next_le' rk ck tr (show i + 1 ≤ j by omega) (Nat.le_of_lt hjlt); omega
end
end Go.Vi
