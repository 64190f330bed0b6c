/- Vi12: operations that write or call; one operation; regions in the text's order. -/
import Derived.Test.YtdbicjhpgofpiaaGreatDoorVi11
import Derived.OrdersIn
import Derived.TacticsIn
import Derived.LoopNIn
import Derived.RangeFuncRecord
namespace Go.Vi

/-- a fence that lets all in: of functions (none), of the rounds of a loop (some). -/
def W (rd : Option Nat) : Fence := { Fence.wide with round := rd }
theorem W_room (rd : Option Nat) (n : Nat) : (W rd).room n := fun _ h => by simp [W, Fence.wide] at h
theorem W_deep {rd : Option Nat} {p : Prop} : (W rd).depth.isSome = true → p := fun h => by simp [W, Fence.wide] at h
theorem callsIn_W {rd : Option Nat} {n : Nat} {P : Program} {f : FuncId} {args : Array Value} {w : World} {R : Ending → World → Prop} : CallsIn (W rd) n P f args w R ↔ Calls P f args w R :=
  callsIn_wide (n := n)
theorem roundIn_W {rd rd' : Option Nat} {n n' : Nat} {P : Program} {l : Nat} {f : FuncId} {tmps : Array Value} {a b : Code} {w : World} {R : Ending → World → Prop}
    (h : RoundIn (W rd) n P l f tmps a b w R) : RoundIn (W rd') n' P l f tmps a b w R := ⟨trivial, fun c cs _ => h.2 c cs (W_room _ _)⟩

def Win (ρ : Map) (h h' : Heap) : Prop := ∀ b, h.next ≤ b → b < h'.next → ρ b = none
def Post (ρ : Map) (h : Heap) (w : World) (v : Value) (h' : Heap) : Ending → World → Prop :=
  fun e w' => ∃ ρ' v', e = .returned v' ∧ VRel ρ' v v' ∧ Good ρ' h' w' ∧ Stp ρ h w ρ' h' w'
def Enters (P : Program) (f : FuncId) : Prop := ∃ fn, P.funcs[f]? = some fn ∧ fn.name ≠ "runtime.NumGoroutine" ∧ fn.body ≠ none
/-- what the interpreter says of a call is so. -/
structure CallOk (P : Program) (call : CallV) : Prop where
  enters : ∀ f args h v h', call f args h = some (v, h') → Enters P f
  next : ∀ f args h v h', call f args h = some (v, h') → h.next ≤ h'.next
  calls : ∀ f args h v h', call f args h = some (v, h') → ∀ ρ w (args' : Array Value), Good ρ h w → Win ρ h h' → VRels ρ args args'.toList → Calls P f args' w (Post ρ h w v h')
  nextY : ∀ l args h v h', call.yld l args h = some (v, h') → h.next ≤ h'.next
  rounds : ∀ l args h v h', call.yld l args h = some (v, h') → ∀ ρ w (args' : Array Value) i, ρ l = some i → Good ρ h w → Win ρ h h' → VRels ρ args args'.toList →
    ∃ L : Loop, w.heap[i.blk]? = some (.loop L) ∧ args'.size = L.params.size ∧
      RoundIn (W none) 0 P i.blk L.fn ((L.params.zip args').foldl (fun tmps (t, a) => tmps.setIfInBounds t a) L.tmps) L.assign L.body w (Post ρ h w v h')
/-- what is known of functions without a body that are run at once. -/
def RowOk (P : Program) (E : Env) : Prop := ∀ f g, E.row f = some g → ∀ args h v h', g args h = some (v, h') → h.next ≤ h'.next ∧
  ∀ ρ w (args' : Array Value), Good ρ h w → Win ρ h h' → VRels ρ args args'.toList → ∃ v' w' ρ', (callFunc f args').run P w = .ok (.value v') w' ∧ VRel ρ' v v' ∧ Good ρ' h' w' ∧ Stp ρ h w ρ' h' w'
def MethOk (P : Program) (E : Env) : Prop := ∀ t n f, E.meth t n = some f → ∀ v w, (method (P.types.size + Made.depth) t v n).run P w = .ok (f, v) w

section
variable {P : Program} {E : Env} {ρ : Map} {call : CallV}

theorem wrN_next {h h' : Heap} {a : Addr} {l : List Value} (hw : wrN h a l = some h') : h.next = h'.next := by
  unfold wrN at hw
  split at hw
  · split at hw
    · cases hw; rfl
    · cases hw
  · cases hw
theorem storeV_next {t : TypeId} {p v : Value} {h h' : Heap} (hs : storeV E t p v h = some h') : h.next = h'.next := by
  unfold storeV at hs
  replace hs := bind_some.1 hs; obtain ⟨i, hi, hs⟩ := hs
  replace hs := bind_some.1 hs; obtain ⟨a, ha, hs⟩ := hs
  simp only at hs
  split at hs
  · exact wrN_next hs
  · cases hs
theorem mapPut_next {t : TypeId} {m k v : Value} {h h' : Heap} (hp : mapPutV E t m k v h = some h') : h.next = h'.next := by
  unfold mapPutV at hp
  replace hp := bind_some.1 hp; obtain ⟨i, hi, hp⟩ := hp
  split at hp
  · replace hp := bind_some.1 hp; obtain ⟨ki, hki, hp⟩ := hp
    replace hp := bind_some.1 hp; obtain ⟨⟨es, c⟩, hme, hp⟩ := hp
    simp only at hp
    split at hp
    · cases hp
    · split at hp <;> cases hp <;> rfl
  · cases hp
theorem mapEntry_next {t : TypeId} {m k v : Value} {h h' : Heap} (hp : mapEntryV E t m k h = some (v, h')) : h.next = h'.next := by
  unfold mapEntryV at hp
  replace hp := bind_some.1 hp; obtain ⟨i, hi, hp⟩ := hp
  split at hp
  · replace hp := bind_some.1 hp; obtain ⟨ki, hki, hp⟩ := hp
    replace hp := bind_some.1 hp; obtain ⟨e, he, hp⟩ := hp
    replace hp := bind_some.1 hp; obtain ⟨⟨es, c⟩, hme, hp⟩ := hp
    simp only at hp
    split at hp
    · cases hp
    · split at hp
      · replace hp := bind_some.1 hp; obtain ⟨x, hx, hp⟩ := hp; cases hp; rfl
      · replace hp := bind_some.1 hp; obtain ⟨x, hx, hp⟩ := hp; cases hp; rfl
      · cases hp
  · cases hp
theorem entryStore_next {m k v : Value} {h h' : Heap} (hp : entryStoreV m k v h = some h') : h.next = h'.next := by
  unfold entryStoreV at hp
  split at hp
  · replace hp := bind_some.1 hp; obtain ⟨⟨es, c⟩, hme, hp⟩ := hp
    replace hp := bind_some.1 hp; obtain ⟨n, hn, hp⟩ := hp
    replace hp := bind_some.1 hp; obtain ⟨j, hj, hp⟩ := hp
    replace hp := bind_some.1 hp; obtain ⟨x, hx, hp⟩ := hp
    cases hp; rfl
  · cases hp
theorem append_next {t : TypeId} {xt : Option TypeId} {s x v : Value} {h h' : Heap} (hap : appendV E t xt s x h = some (v, h')) : h.next ≤ h'.next := by
  unfold appendV at hap
  replace hap := bind_some.1 hap; obtain ⟨i, hi, hap⟩ := hap
  split at hap
  · replace hap := bind_some.1 hap; obtain ⟨e, he, hap⟩ := hap
    replace hap := bind_some.1 hap; obtain ⟨okx, hokx, hap⟩ := hap
    replace hap := bind_some.1 hap; obtain ⟨⟨n, new⟩, hsrc, hap⟩ := hap
    simp only at hap
    split at hap
    · cases hap
    · split at hap
      · split at hap
        · cases hap; exact Nat.le_refl _
        · split at hap
          · replace hap := bind_some.1 hap; obtain ⟨h2, hw, hap⟩ := hap
            cases hap; exact Nat.le_of_eq (wrN_next hw)
          · cases hap
      · split at hap
        · cases hap
        · split at hap
          · split at hap
            · cases hap; exact Nat.le_succ _
            · cases hap
          · split at hap
            · split at hap
              · split at hap
                · cases hap; exact Nat.le_succ _
                · split at hap
                  · cases hap; exact Nat.le_succ _
                  · cases hap
              · cases hap
            · cases hap
  · cases hap
theorem copy_next {t : TypeId} {d x v : Value} {h h' : Heap} (hc : copyV E t d x h = some (v, h')) : h.next = h'.next := by
  unfold copyV at hc
  replace hc := bind_some.1 hc; obtain ⟨i, hi, hc⟩ := hc
  split at hc
  · replace hc := bind_some.1 hc; obtain ⟨e, he, hc⟩ := hc
    replace hc := bind_some.1 hc; obtain ⟨⟨n, l⟩, hsrc, hc⟩ := hc
    simp only at hc
    split at hc
    · cases hc
    · split at hc
      · cases hc; rfl
      · split at hc
        · replace hc := bind_some.1 hc; obtain ⟨h2, hw, hc⟩ := hc
          cases hc; exact wrN_next hw
        · cases hc
  · cases hc
theorem clear_next {t : TypeId} {x : Value} {h h' : Heap} (hc : clearV E t x h = some h') : h.next = h'.next := by
  unfold clearV at hc
  replace hc := bind_some.1 hc; obtain ⟨i, hi, hc⟩ := hc
  split at hc
  · cases hc; rfl
  · replace hc := bind_some.1 hc; obtain ⟨e, he, hc⟩ := hc
    replace hc := bind_some.1 hc; obtain ⟨zl, hzl, hc⟩ := hc
    split at hc
    · exact wrN_next hc
    · cases hc
  · cases hc
theorem delete_next {t : TypeId} {m k : Value} {h h' : Heap} (hp : deleteV E t m k h = some h') : h.next = h'.next := by
  unfold deleteV at hp
  replace hp := bind_some.1 hp; obtain ⟨i, hi, hp⟩ := hp
  split at hp
  · replace hp := bind_some.1 hp; obtain ⟨ki, hki, hp⟩ := hp
    split at hp
    · cases hp; rfl
    · cases hp
  · replace hp := bind_some.1 hp; obtain ⟨ki, hki, hp⟩ := hp
    replace hp := bind_some.1 hp; obtain ⟨⟨es, c⟩, hme, hp⟩ := hp
    simp only at hp
    split at hp
    · cases hp
    · split at hp <;> cases hp <;> rfl
  · cases hp
theorem range_run (ko : TysOk P E) {h h' : Heap} {w : World} (g : Good ρ h w) (win : Win ρ h h') {t : TypeId} {x x' v : Value} (hx : VRel ρ x x') (hv : rangeV E t x h = some (v, h')) :
    ∃ w' v' ρ', (Instr.range t x').run P w = .ok v' w' ∧ VRel ρ' v v' ∧ Good ρ' h' w' ∧ Stp ρ h w ρ' h' w' := by
  have key : ∀ (o : Obj) (b : Blk), h' = h.new b → (∀ ρ' : Map, Ext ρ ρ' → ORel ρ' b { blk := w.heap.size, base := 0, opn := none, tot := 0 } (w.alloc o)) → v = .pointer (some ⟨h.next, 0, none⟩) →
      (Instr.range t x').run P w = .ok (.pointer (some ⟨w.heap.size, 0, none⟩)) (w.alloc o) →
      ∃ w' v' ρ', (Instr.range t x').run P w = .ok v' w' ∧ VRel ρ' v v' ∧ Good ρ' h' w' ∧ Stp ρ h w ρ' h' w' := by
    intro o b hh ho hvv run
    subst hh hvv
    have hn := win h.next (Nat.le_refl _) (by show h.next < h.next + 1; omega)
    obtain ⟨g', s'⟩ := step_new (i := { blk := w.heap.size, base := 0, opn := none, tot := 0 }) (w' := w.alloc o) g hn rfl ⟨by show (w.heap.push o).size = _; simp, rfl, rfl⟩
      (fun r hr => alloc_old w o r hr) (ho _ (upd_ext _ hn))
    exact ⟨_, _, _, run, .ptr h.next 0 _ upd_self, g', s'⟩
  unfold rangeV at hv
  replace hv := bind_some.1 hv; obtain ⟨i, hi, hv⟩ := hv
  split at hv
  · rename_i s hu
    cases hv
    have hx' := hx.string_inv
    subst hx'
    refine key (.stringIter s 0) (.sit s 0) rfl (fun ρ' _ => ⟨rfl, alloc_new w _⟩) rfl ?_
    simp [Instr.range, Sem.run_bind, run_und (ko _ _ hi), hu]
  · rename_i hu
    cases hv
    cases hx
    refine key (.mapIter none 0 #[] 0) (.mit none 0 [] 0) rfl (fun ρ' _ => ⟨rfl, none, alloc_new w _, rfl⟩) rfl ?_
    simp [Instr.range, Sem.run_bind, run_und (ko _ _ hi), hu]
  · rename_i m hu
    replace hv := bind_some.1 hv; obtain ⟨⟨es, c⟩, hm, hv⟩ := hv
    cases hv
    obtain ⟨b, j, es', hb1, hb, hget, rfl, hw, hr⟩ := mapOf_run g hx hm
    cases hb1
    refine key (.mapIter (some j.blk) c #[] c) (.mit (some m) c [] c) rfl (fun ρ' e => ⟨rfl, some j.blk, alloc_new w _, j, e _ _ hb, rfl⟩) rfl ?_
    simp [Instr.range, Sem.run_bind, run_und (ko _ _ hi), hu, run_getObj_map hw]
  · cases hv

theorem mrel_filter {es es' : List MapEntry} (p : Nat → Bool) (h : MRel ρ es es') : MRel ρ (es.filter fun e => p e.born) (es'.filter fun e => p e.born) := by
  induction es generalizing es' with
  | nil =>
    have := h.1
    cases es' with
    | nil => exact h
    | cons a b => simp at this
  | cons e es ih =>
    cases es' with
    | nil => have := h.1; simp at this
    | cons e' es' =>
      have h0 := h.2 0 e e' rfl rfl
      have hr : MRel ρ es es' := ⟨by simpa using h.1, fun j a b ha hb => h.2 (j + 1) a b ha hb⟩
      have := ih hr
      rw [List.filter_cons, List.filter_cons, h0.born]
      split
      · refine ⟨by simpa using this.1, fun j a b ha hb => ?_⟩
        cases j with
        | zero => cases ha; cases hb; exact h0
        | succ j => exact this.2 j a b ha hb
      · exact this
theorem mrel_all {es es' : List MapEntry} (p : Nat → Bool) (h : MRel ρ es es') : es'.all (fun e => p e.born) = es.all (fun e => p e.born) := by
  induction es generalizing es' with
  | nil => cases es' with
    | nil => rfl
    | cons a b => have := h.1; simp at this
  | cons e es ih =>
    cases es' with
    | nil => have := h.1; simp at this
    | cons e' es' =>
      rw [List.all_cons, List.all_cons, ih ⟨by simpa using h.1, fun j a b ha hb => h.2 (j + 1) a b ha hb⟩, (h.2 0 e e' rfl rfl).born]
theorem mrel_append {a a' b b' : List MapEntry} (h : MRel ρ a a') (k : MRel ρ b b') : MRel ρ (a ++ b) (a' ++ b') := by
  refine ⟨by simp [h.1, k.1], fun j x y hx hy => ?_⟩
  have hl := h.1
  by_cases hj : j < a.length
  · rw [List.getElem?_append_left hj] at hx
    rw [List.getElem?_append_left (by omega)] at hy
    exact h.2 j x y hx hy
  · rw [List.getElem?_append_right (by omega)] at hx
    rw [List.getElem?_append_right (by omega), ← hl] at hy
    exact k.2 _ x y hx hy
theorem run_getObj_at {w : World} {r : Nat} {o : Obj} (h : w.heap[r]? = some o) (hn : ∀ c e f, o ≠ .cells c e f) : (getObj r).run P w = .ok o w := by
  simp only [getObj, Sem.run, h]
  try (cases o <;> first | rfl | exact absurd rfl (hn _ _ _))
theorem run_setObj_at {w : World} {r : Nat} {o : Obj} (h : w.heap[r]? = some o) (hn : ∀ c e f, o ≠ .cells c e f) (o' : Obj) : (setObj r o').run P w = .ok () (w.putObj r o') := by
  simp only [setObj, Sem.run, h]
  cases o <;> first | rfl | exact absurd rfl (hn _ _ _)
theorem mrel_empty {l l' : List MapEntry} (h : MRel ρ l l') : l'.isEmpty = l.isEmpty := by
  have := h.1; cases l <;> cases l' <;> simp_all
theorem mrel_nil {l : List MapEntry} (h : MRel ρ [] l) : l = [] := by
  have := h.1; cases l <;> simp_all
theorem mrel_one {e : MapEntry} {l : List MapEntry} (h : MRel ρ [e] l) : ∃ e', l = [e'] ∧ MERel ρ e e' := by
  have h1 := h.1
  match l, h1 with
  | [e'], _ => exact ⟨e', rfl, h.2 0 e e' rfl rfl⟩
theorem set_obj {h : Heap} {w : World} (g : Good ρ h w) {b : Nat} {i : Info} (hb : ρ b = some i) (hp : h.get b ≠ none) {o : Obj} {x : Blk} (hx : ORel ρ x i (w.putObj i.blk o)) :
    Good ρ (h.set b x) (w.putObj i.blk o) ∧ Stp ρ h w ρ (h.set b x) (w.putObj i.blk o) :=
  step_set g hb hp ⟨by simp, rfl, rfl⟩ (fun r hr => World.putObj_heap_other hr) hx

theorem next_run {h h' : Heap} {w : World} (g : Good ρ h w) {it it' v : Value} {isS : Bool} (hit : VRel ρ it it') (hv : nextV it isS h = some (v, h')) (ty : TypeId) :
    ∃ w' v', (Instr.next it' isS ty).run P w = .ok v' w' ∧ VRel ρ v v' ∧ Good ρ h' w' ∧ Stp ρ h w ρ h' w' := by
  have over : VRel ρ (.tuple #[.bool false]) (.tuple #[.bool false]) := plain_rel 3 _ rfl
  unfold nextV at hv
  split at hv
  · rename_i r
    obtain ⟨i, hi, _, rfl⟩ := ptr_inv hit
    have hi : ρ r = some i := hi
    split at hv
    · rename_i s pos hget
      obtain ⟨hb, hw⟩ := g.rel _ _ _ hi hget
      split at hv
      · rename_i hpos
        cases hv
        obtain ⟨g', s'⟩ := set_obj g hi (by rw [hget]; simp) (o := .stringIter s (pos + (Utf8.decode s pos).2)) (x := .sit s (pos + (Utf8.decode s pos).2)) ⟨hb, World.putObj_heap_same (g.lt _ _ hi)⟩
        refine ⟨_, _, ?_, plain_rel 3 _ rfl, g', s'⟩
        simp [Instr.next, hb, Sem.run_bind, run_getObj_at hw nofun, run_setObj_at hw nofun, hpos, goInt]
      · rename_i hpos
        cases hv
        refine ⟨w, _, ?_, over, g, .refl _ _ _⟩
        simp [Instr.next, hb, Sem.run_bind, run_getObj_at hw nofun, hpos]
    · rename_i since seen last hget
      cases hv
      obtain ⟨hb, m', hw, rfl⟩ := g.rel _ _ _ hi hget
      refine ⟨w, _, ?_, over, g, .refl _ _ _⟩
      simp [Instr.next, hb, Sem.run_bind, run_getObj_at hw nofun]
    · rename_i m since seen last hget
      obtain ⟨hb, m', hw, j, hj, rfl⟩ := g.rel _ _ _ hi hget
      split at hv
      · rename_i es clock hgm
        obtain ⟨es', hwm, hr⟩ := g.rel _ _ _ hj hgm
        split at hv
        · cases hv
        · rename_i hsup
          have hsup' : (!seen.isEmpty && !es'.isEmpty && es'.all (fun e => decide (e.born ≥ last))) = false := by
            have e1 : es'.isEmpty = es.isEmpty := by
              rw [← Array.isEmpty_toList]; exact mrel_empty hr
            have e2 : es'.all (fun e => decide (e.born ≥ last)) = es.all (fun e => decide (e.born ≥ last)) := by
              rw [← Array.all_toList]; exact mrel_all (fun n => decide (n ≥ last)) hr
            rw [e1, e2]; simpa using hsup
          have hO := mrel_filter (fun n => decide (n < since)) (mrel_filter (fun n => !seen.contains n) hr)
          have hN := mrel_filter (fun n => decide (n ≥ since)) (mrel_filter (fun n => !seen.contains n) hr)
          unfold candsOf oldOf newOf leftOf at hv
          generalize hO' : List.filter (fun e => decide (e.born < since)) (List.filter (fun e => !seen.contains e.born) es'.toList) = O' at hO
          generalize hN' : List.filter (fun e => decide (e.born ≥ since)) (List.filter (fun e => !seen.contains e.born) es'.toList) = N' at hN
          generalize List.filter (fun e => decide (e.born < since)) (List.filter (fun e => !seen.contains e.born) es) = O at hO hv
          generalize List.filter (fun e => decide (e.born ≥ since)) (List.filter (fun e => !seen.contains e.born) es) = N at hN hv
          have aO : Array.filter (fun e => decide (e.born < since)) (Array.filter (fun e => !(⟨seen⟩ : Array Nat).contains e.born) es') = ⟨O'⟩ := by
            apply Array.ext'; rw [Array.toList_filter, Array.toList_filter]; simpa using hO'
          have aN : Array.filter (fun e => decide (e.born ≥ since)) (Array.filter (fun e => !(⟨seen⟩ : Array Nat).contains e.born) es') = ⟨N'⟩ := by
            apply Array.ext'; rw [Array.toList_filter, Array.toList_filter]; simpa using hN'
          split at hv
          · rename_i e hc
            cases hv
            cases O with
            | nil => simp at hc
            | cons a O =>
              simp only [List.isEmpty_cons, Bool.false_eq_true, if_false, List.nil_append, List.cons_append, List.map_cons, List.cons.injEq, Option.some.injEq, List.map_eq_nil_iff, List.append_eq_nil_iff] at hc
              obtain ⟨rfl, rfl, rfl⟩ := hc
              obtain ⟨e', rfl, he⟩ := mrel_one hO
              have := mrel_nil hN
              subst this
              obtain ⟨g', s'⟩ := set_obj g hi (by rw [hget]; simp) (o := .mapIter (some j.blk) since ⟨seen ++ [a.born]⟩ clock) (x := .mit (some m) since (seen ++ [a.born]) clock)
                ⟨hb, some j.blk, World.putObj_heap_same (g.lt _ _ hi), j, hj, rfl⟩
              refine ⟨_, .tuple #[.bool true, e'.key, e'.val], ?_, VRel.tuple' (.cons (.bool _) (.cons he.key (.cons he.val .nil))), g', s'⟩
              unfold Instr.next
              simp only [hb, Sem.run_bind, run_getObj_at hw nofun, run_getObj_map hwm, Nat.zero_add, Result.andThen_ok]
              rw [if_neg (by simpa using hsup')]
              simp only [aO, aN, he.born]
              have hc1 : ((if (⟨[e']⟩ : Array MapEntry).isEmpty = true then #[none] else #[]) ++ Array.map some ((⟨[e']⟩ : Array MapEntry) ++ ⟨[]⟩)) = #[some e'] := by simp
              have hc2 : (choose (.mapNext 1)).run P w = .ok 0 w := rfl
              rw [hc1]
              simp only [List.size_toArray, List.length_cons, List.length_nil, Nat.zero_add, Sem.run_bind, hc2, Result.andThen_ok]
              simp [run_setObj_at hw nofun]
          · rename_i hc
            cases hv
            cases O with
            | nil =>
              have := mrel_nil hO
              subst this
              simp only [List.isEmpty_nil, if_true, List.nil_append, List.cons_append, List.cons.injEq, true_and, List.map_eq_nil_iff] at hc
              subst hc
              have := mrel_nil hN
              subst this
              refine ⟨w, _, ?_, over, g, .refl _ _ _⟩
              unfold Instr.next
              simp only [hb, Sem.run_bind, run_getObj_at hw nofun, run_getObj_map hwm, Nat.zero_add, Result.andThen_ok]
              rw [if_neg (by simpa using hsup')]
              simp only [aO, aN]
              have hc1 : ((if (⟨[]⟩ : Array MapEntry).isEmpty = true then #[none] else #[]) ++ Array.map some ((⟨[]⟩ : Array MapEntry) ++ ⟨[]⟩)) = #[none] := by simp
              have hc2 : (choose (.mapNext 1)).run P w = .ok 0 w := rfl
              rw [hc1]
              simp only [List.size_toArray, List.length_cons, List.length_nil, Nat.zero_add, Sem.run_bind, hc2, Result.andThen_ok]
              simp
            | cons a O => simp at hc
          · cases hv
      · cases hv
    · cases hv
  · cases hv
theorem mrel_find {es es' : List MapEntry} (p : Nat → Bool) (h : MRel ρ es es') {e : MapEntry} (he : es.find? (fun e => p e.born) = some e) : ∃ e', es'.find? (fun e => p e.born) = some e' ∧ MERel ρ e e' := by
  induction es generalizing es' with
  | nil => simp at he
  | cons a es ih =>
    cases es' with
    | nil => have := h.1; simp at this
    | cons a' es' =>
      have h0 := h.2 0 a a' rfl rfl
      have hr : MRel ρ es es' := ⟨by simpa using h.1, fun j x y hx hy => h.2 (j + 1) x y hx hy⟩
      rw [List.find?_cons] at he ⊢
      rw [← h0.born]
      split at he
      · cases he
        exact ⟨a', rfl, h0⟩
      · exact ih hr he
theorem entryV_next {it v : Value} {h h' : Heap} (hv : entryV it h = some (v, h')) : h.next ≤ h'.next := by
  unfold entryV at hv
  split at hv
  · split at hv
    · split at hv
      · split at hv
        · cases hv
        · obtain ⟨e, _, he⟩ := Option.map_eq_some_iff.1 hv
          cases he; exact Nat.le_refl _
      · cases hv
    · cases hv
  · cases hv
theorem entry_run {h h' : Heap} {w : World} (g : Good ρ h w) {it it' v : Value} (hit : VRel ρ it it') (hv : entryV it h = some (v, h')) :
    ∃ v', (Instr.entry it').run P w = .ok v' w ∧ VRel ρ v v' ∧ h' = h := by
  unfold entryV at hv
  split at hv
  · rename_i r
    obtain ⟨i, hi, _, rfl⟩ := ptr_inv hit
    have hi : ρ r = some i := hi
    split at hv
    · rename_i m since seen stepped hget
      obtain ⟨hb, m', hw, j, hj, rfl⟩ := g.rel _ _ _ hi hget
      split at hv
      · rename_i stamp es clock hst hgm
        obtain ⟨es', hwm, hr⟩ := g.rel _ _ _ hj hgm
        split at hv
        · cases hv
        · rename_i hck
          obtain ⟨e, he, hee⟩ := Option.map_eq_some_iff.1 hv
          cases hee
          obtain ⟨e', he', hrel⟩ := mrel_find (fun n => n == stamp) hr he
          refine ⟨.tuple #[e'.key, e'.val], ?_, VRel.tuple' (.cons hrel.key (.cons hrel.val .nil)), rfl⟩
          have hck' : clock = stepped := by simpa using hck
          have hst' : (⟨seen⟩ : Array Nat).back? = some stamp := by
            rw [← hst]; simp [Array.back?, List.getLast?_eq_getElem?]
          have hf : es'.find? (fun e => e.born == stamp) = some e' := by
            rw [← Array.find?_toList]; exact he'
          unfold Instr.entry
          simp [hb, Sem.run_bind, run_getObj_at hw nofun, run_getObj_map hwm, hst', hck', hf]
      · cases hv
    · cases hv
  · cases hv
theorem sameV_next {t : TypeId} {x v : Value} {h h' : Heap} (hv : sameV E t x h = some (v, h')) : h.next ≤ h'.next := by
  unfold sameV at hv
  replace hv := bind_some.1 hv; obtain ⟨i, _, hv⟩ := hv
  split at hv
  · cases hv; exact Nat.le_refl _
  · cases hv; exact Nat.le_refl _
  · replace hv := bind_some.1 hv; obtain ⟨e, _, hv⟩ := hv
    split at hv
    · cases hv; exact Nat.le_refl _
    · cases hv
  · cases hv
theorem freeze_any {w : World} {b n : Nat} {c : Array Value} {e : TypeId} {fr : Nat × Nat} (h : w.heap[b]? = some (.cells c e fr)) : ∃ fr', (w.freeze ⟨b, n, none⟩ 1).heap[b]? = some (.cells c e fr') := by
  unfold World.freeze
  rw [if_neg (by omega)]
  obtain ⟨lo, hi⟩ := fr
  simp [h, Array.getElem?_modify]
theorem same_run (ko : TysOk P E) {h h' : Heap} {w : World} (g : Good ρ h w) {t : TypeId} {x x' v : Value} (hx : VRel ρ x x') (hv : sameV E t x h = some (v, h')) :
    ∃ w' v', (convert t t x').run P w = .ok v' w' ∧ VRel ρ v v' ∧ Good ρ h' w' ∧ Stp ρ h w ρ h' w' := by
  unfold sameV at hv
  replace hv := bind_some.1 hv; obtain ⟨i, hi, hv⟩ := hv
  split at hv
  · rename_i k k' n hu
    cases hv
    have hx' := hx.int_inv
    subst hx'
    exact ⟨w, _, by simp [convert, run_und (ko _ _ hi), hu, Conv.intToInt], .int _ _, g, .refl _ _ _⟩
  · rename_i s hu
    cases hv
    have hx' := hx.string_inv
    subst hx'
    exact ⟨w, _, by simp [convert, run_und (ko _ _ hi), hu], .string _, g, .refl _ _ _⟩
  · rename_i et a l c hu
    replace hv := bind_some.1 hv; obtain ⟨e, he, hv⟩ := hv
    split at hv
    · rename_i cs wr o hw hsp hget
      cases hv
      have hx0 := hx
      cases hx with
      | slice b o1 _ _ q o' cap' hq hlc ho hc hn hr =>
        obtain ⟨p1, cc, el, fr, p2, p3, p4, p5, _, p7⟩ := g.rel _ _ _ hq hget
        obtain ⟨fr', hfr⟩ := freeze_any (n := cc.size) p2
        obtain ⟨g', s'⟩ := step_set (o := .cells cs false o) (w' := w.freeze ⟨q.blk, cc.size, none⟩ 1) g hq (by rw [hget]; simp) ⟨freeze_size, freeze_side ⟨rfl, rfl⟩⟩
          (fun r hr => freeze_other hr) ⟨p1, cc, el, fr', hfr, p3, p4, p5, (fun h => by cases h), p7⟩
        refine ⟨_, _, ?_, hx0, g', s'⟩
        have hsh : w.shape? q.blk = some (el, cc.size) := by unfold World.shape?; rw [p2]
        simp [convert, run_und (ko _ _ hi), hu, run_und (ko _ _ he), hw, markStringish, run_shape, hsh]
    · cases hv
  · cases hv
theorem freeze_some {w : World} {b o n : Nat} {c : Array Value} {e : TypeId} {fr : Nat × Nat} (hn : n ≠ 0) (h : w.heap[b]? = some (.cells c e fr)) : ∃ fr', (w.freeze ⟨b, o, none⟩ n).heap[b]? = some (.cells c e fr') := by
  unfold World.freeze
  rw [if_neg hn]
  obtain ⟨lo, hi⟩ := fr
  simp [h, Array.getElem?_modify]
theorem freeze_others {w : World} {b o n r : Nat} (h : r ≠ b) : (w.freeze ⟨b, o, none⟩ n).heap[r]? = w.heap[r]? := by
  unfold World.freeze
  split
  · rfl
  · simp [Array.getElem?_modify, Ne.symm h]
theorem freeze_sizes {w : World} {a : Addr} {n : Nat} : (w.freeze a n).heap.size = w.heap.size := by
  unfold World.freeze
  split
  · rfl
  · simp
theorem loadBytes_run {w : World} : ∀ (l : List Value) (s : List UInt8) (a : Addr) (acc : ByteArray), unbytes l = some s → (∀ (j : Nat) v, l[j]? = some v → w.cell? (a.add j) = some v) →
    (loadBytes a acc l.length).run P w = .ok ⟨acc.data ++ s.toArray⟩ w := by
  intro l
  induction l with
  | nil => intro s a acc h _; simp [unbytes] at h; subst h; simp [loadBytes]
  | cons v l ih =>
    intro s a acc h hc
    unfold unbytes at h
    cases hv : unbyte v with
    | none => rw [hv] at h; cases h
    | some x =>
      cases hr : unbytes l with
      | none => rw [hv, hr] at h; cases h
      | some r =>
        rw [hv, hr] at h
        cases h
        have h0 : w.cell? a = some v := by
          have := hc 0 v rfl
          simpa [Addr.add] using this
        have ih := ih r (a.add 1) (acc.push x) hr (fun j y hy => by
          have := hc (j + 1) y (by simpa using hy)
          have e : (a.add 1).add j = a.add (j + 1) := by
            unfold Addr.add
            by_cases hj : j = 0
            · subst hj; simp
            · simp [hj]; omega
          rw [e]; exact this)
        unfold unbyte at hv
        split at hv
        · rename_i n
          cases hv
          have hx : (n.toNat).toUInt8 = UInt8.ofNat n.toNat := rfl
          simp only [List.length_cons, loadBytes, Sem.run_bind, run_load, h0, Result.andThen, hx]
          rw [ih]
          congr 1
          apply ByteArray.ext
          simp [ByteArray.push]
        · cases hv
theorem liesAt_row {e : TypeId} (hc : P.cellsOf e = 1) (count off n : Nat) (hn : off + n ≤ count) : liesAt P P.depth e count off e n = true := by
  have hd : P.depth = (2 * (P.types.size + Made.depth) + 1) + 1 := rfl
  rw [hd]
  simp only [liesAt, Bool.or_eq_true]
  left
  rw [hd]
  simp [rowAt, hc, hn, sameLayout, Nat.mod_one]
theorem ustr_next {t : TypeId} {p n v : Value} {h h' : Heap} (hv : ustrV E t p n h = some (v, h')) : h.next = h'.next := by
  unfold ustrV at hv
  split at hv
  · replace hv := bind_some.1 hv; obtain ⟨i, hi, hv⟩ := hv
    split at hv
    · replace hv := bind_some.1 hv; obtain ⟨j, hj, hv⟩ := hv
      split at hv
      · cases hv
      · split at hv
        · split at hv
          · replace hv := bind_some.1 hv; obtain ⟨l, hl, hv⟩ := hv
            replace hv := bind_some.1 hv; obtain ⟨s, hs, hv⟩ := hv
            cases hv; rfl
          · cases hv
        · cases hv
    · cases hv
  · cases hv
theorem sdata_run {w : World} {ats : Array TypeId} {rt : TypeId} {x x' v : Value} (hx : VRel ρ x x') (hv : sdataV x = some v) : ∃ v', (Builtin.unsafeSliceData_ ats rt #[x']).run P w = .ok v' w ∧ VRel ρ v v' := by
  unfold sdataV at hv
  split at hv
  · cases hv; cases hx; exact ⟨_, rfl, .ptr0⟩
  · rename_i b o l cap
    split at hv
    · cases hv
    · rename_i hc0
      cases hv
      cases hx with
      | slice _ _ _ _ q o' cap' hq hlc ho hc hn hr =>
        have ho' : o' = q.base + o := by rcases ho with ho | ho; exact ho; exact absurd ho.2.1 hc0
        subst ho'
        exact ⟨_, Lib.run_unsafeSliceData_row w _ _ _ _ _ (by omega), .ptr b o q hq⟩
  · cases hv
theorem ustr_run (ko : TysOk P E) {h h' : Heap} {w : World} (g : Good ρ h w) {ats : Array TypeId} {rt t : TypeId} {p n p' n' v : Value} (ha : ats[0]? = some t) (hp : VRel ρ p p') (hn : VRel ρ n n') (hv : ustrV E t p n h = some (v, h')) :
    ∃ w' v', (Builtin.unsafeString_ ats rt #[p', n']).run P w = .ok v' w' ∧ VRel ρ v v' ∧ Good ρ h' w' ∧ Stp ρ h w ρ h' w' := by
  unfold ustrV at hv
  split at hv
  · rename_i b o n
    replace hv := bind_some.1 hv; obtain ⟨i, hi, hv⟩ := hv
    split at hv
    · rename_i e hu
      replace hv := bind_some.1 hv; obtain ⟨j, hj, hv⟩ := hv
      split at hv
      · cases hv
      · rename_i hcond
        simp only [not_or, Decidable.not_not, Nat.not_lt, gt_iff_lt] at hcond
        obtain ⟨hn0, hsz1, hmax⟩ := hcond
        split at hv
        · rename_i cs wr z hget
          split at hv
          · rename_i hz
            subst hz
            replace hv := bind_some.1 hv; obtain ⟨l, hl, hv⟩ := hv
            replace hv := bind_some.1 hv; obtain ⟨s, hs, hv⟩ := hv
            cases hv
            obtain ⟨q, hq, _, rfl⟩ := ptr_inv hp
            have hq : ρ b = some q := hq
            have := hn.int_inv
            subst this
            obtain ⟨h1, c, el, fr, hc, hsz, hb, rel, hfz, hty⟩ := g.rel _ _ _ hq hget
            obtain ⟨hel, _⟩ := hty _ rfl
            have hel : e = el := hel.symm
            subst hel
            obtain ⟨l', rl, hll, hcell⟩ := rd_real g (a := ⟨b, o, none⟩) hq hl (q.base + o) rfl
            have := same_bytes l l' s rl hs
            subst this
            have hle : o + n ≤ cs.length := by
              unfold rdN at hl
              rw [hget] at hl
              simp only at hl
              split at hl
              · assumption
              · cases hl
            have hcell1 : P.cellsOf e = 1 := by
              obtain ⟨x, hx, hxs, _⟩ := (ko _ _ hj).info
              unfold Program.cellsOf; rw [hx]; simp only [Option.map_some, Option.getD_some]; omega
            have hlb := loadBytes_run (P := P) l' s ⟨q.blk, q.base + o, none⟩ .empty hs hcell
            rw [hll] at hlb
            have hlies := liesAt_row (P := P) hcell1 (c.size / P.cellsOf e) (q.base + o) n (by rw [hcell1, Nat.div_one]; omega)
            have hsh : w.shape? q.blk = some (e, c.size) := by unfold World.shape?; rw [hc]
            obtain ⟨fr', hfr⟩ := freeze_some (o := q.base + o) hn0 hc
            obtain ⟨g', s'⟩ := step_set (o := .cells cs false (some (1, e))) (w' := w.freeze ⟨q.blk, q.base + o, none⟩ n) g hq (by rw [hget]; simp) ⟨freeze_sizes, freeze_side ⟨rfl, rfl⟩⟩
              (fun r hr => freeze_others hr) ⟨h1, c, e, fr', hfr, hsz, hb, rel, (fun h => by cases h), hty⟩
            refine ⟨_, .string ⟨s.toArray⟩, ?_, .string _, g', s'⟩
            have hdef : Builtin.unsafeString_ ats rt #[.pointer (some ⟨q.blk, q.base + o, none⟩), .int .i64 (.ofNat n)] =
                (do
                  let m ← asInt (.int .i64 (.ofNat n))
                  let some pt := ats[0]? | stuck "unsafe.String: no argument types"
                  if m < 0 then runtimePanic (.error "unsafe.String: len out of range")
                  if m > IntKind.i64.max then unsupported (.unsafePointer "String: a length above the largest int")
                  if m = 0 then pure (.string .empty)
                  else if ← variablesAt ⟨q.blk, q.base + o, none⟩ (← elemOf pt) m.toNat then do
                    let s ← loadBytes ⟨q.blk, q.base + o, none⟩ .empty m.toNat
                    freeze ⟨q.blk, q.base + o, none⟩ m.toNat
                    pure (.string s)
                  else unsupported (.unsafePointer "String: not so many bytes at ptr")) := rfl
            show (Builtin.unsafeString_ ats rt #[.pointer (some ⟨q.blk, q.base + o, none⟩), .int .i64 (.ofNat n)]).run P w = _
            rw [hdef]
            have hm : IntKind.i64.max = 9223372036854775807 := rfl
            have h63 : ¬ (9223372036854775807 : Int) < (n : Int) := by omega
            have hneg : ¬ (n : Int) < 0 := by omega
            have hup : P.underlying t = some (.pointer e) := by rw [(ko _ _ hi).under, hu]
            simp [asInt, asIntOf, hm, h63, hneg, hn0, ha, variablesAt, hsh, elemOf, run_underlying hup, hlies, hlb]
          · cases hv
        · cases hv
    · cases hv
  · cases hv
theorem rangeV_next {t : TypeId} {x v : Value} {h h' : Heap} (hv : rangeV E t x h = some (v, h')) : h.next ≤ h'.next := by
  unfold rangeV at hv
  replace hv := bind_some.1 hv; obtain ⟨i, _, hv⟩ := hv
  split at hv
  · cases hv; exact Nat.le_succ _
  · cases hv; exact Nat.le_succ _
  · replace hv := bind_some.1 hv; obtain ⟨⟨es, c⟩, _, hv⟩ := hv
    cases hv; exact Nat.le_succ _
  · cases hv
theorem nextV_next {it v : Value} {isS : Bool} {h h' : Heap} (hv : nextV it isS h = some (v, h')) : h.next ≤ h'.next := by
  unfold nextV at hv
  split at hv
  · split at hv
    · split at hv
      · cases hv; exact Nat.le_refl _
      · cases hv; exact Nat.le_refl _
    · cases hv; exact Nat.le_refl _
    · split at hv
      · split at hv
        · cases hv
        · split at hv
          · cases hv; exact Nat.le_refl _
          · cases hv; exact Nat.le_refl _
          · cases hv
      · cases hv
    · cases hv
  · cases hv
theorem makeChan_run (ko : TysOk P E) {h h' : Heap} {w : World} (g : Good ρ h w) (win : Win ρ h h') {t : TypeId} {x x' v : Value} (hx : VRel ρ x x') (hv : makeChanV E t x h = some (v, h')) :
    ∃ w' v' ρ', (Instr.makeChan t x').run P w = .ok v' w' ∧ VRel ρ' v v' ∧ Good ρ' h' w' ∧ Stp ρ h w ρ' h' w' := by
  unfold makeChanV at hv
  replace hv := bind_some.1 hv; obtain ⟨i, hi, hv⟩ := hv
  split at hv
  · rename_i dir elem k n hu
    replace hv := bind_some.1 hv; obtain ⟨e, he, hv⟩ := hv
    split at hv
    · rename_i hb
      obtain ⟨hb1, hb2, hb3⟩ := hb
      cases hv
      have hx' := hx.int_inv
      subst hx'
      have hn := win h.next (Nat.le_refl _) (by show h.next < h.next + 1; omega)
      obtain ⟨ti, hti, htb, _, _⟩ := run_info (P := P) (ko _ _ he)
      obtain ⟨g', s'⟩ := step_new (o := .chan n.toNat []) (i := { blk := w.heap.size, base := 0, opn := none, tot := 0 }) (w' := w.alloc (.chan n.toNat #[] false 0 0 false)) g hn rfl
        ⟨by show (w.heap.push _).size = _; simp, rfl, rfl⟩ (fun r hr => alloc_old w _ r hr) ⟨#[], 0, 0, alloc_new w _, ⟨rfl, fun j a b => by simp at a⟩⟩
      refine ⟨_, _, _, ?_, .chan h.next _ upd_self, g', s'⟩
      have q1 : ¬ n < 0 := by omega
      have q2 : ¬ n > IntKind.i64.max := by
        have : IntKind.i64.max = 9223372036854775807 := by decide
        omega
      have q3 : ¬ ((ti.bytes : Int) * n > 2 ^ 48 - 112) := by rw [htb]; omega
      have q4 : ∀ w : World, (asInt (.int k n)).run P w = .ok n w := fun w => rfl
      simp only [Instr.makeChan, Sem.run_bind, Sem.run_pure, q4, run_und (ko _ _ hi), hu, hti, q1, q2, q3, Result.andThen_ok, run_newObj, if_false, or_self]
      rfl
    · cases hv
  · cases hv
theorem makeChan_next {t : TypeId} {x v : Value} {h h' : Heap} (hv : makeChanV E t x h = some (v, h')) : h.next ≤ h'.next := by
  unfold makeChanV at hv
  replace hv := bind_some.1 hv; obtain ⟨i, _, hv⟩ := hv
  split at hv
  · replace hv := bind_some.1 hv; obtain ⟨e, _, hv⟩ := hv
    split at hv
    · cases hv; exact Nat.le_succ _
    · cases hv
  · cases hv
theorem sel_next {ev : Operand → Value} {cs : Array SelectCase} {bl : Bool} {v : Value} {h h' : Heap} (hv : selV E ev h cs bl = some (v, h')) : h.next ≤ h'.next := by
  unfold selV at hv
  split at hv
  · replace hv := bind_some.1 hv; obtain ⟨i, _, hv⟩ := hv
    replace hv := bind_some.1 hv; obtain ⟨z, _, hv⟩ := hv
    split at hv
    · split at hv
      · split at hv
        · split at hv <;> cases hv <;> exact Nat.le_refl _
        · split at hv <;> cases hv <;> exact Nat.le_refl _
      · cases hv
    · cases hv
  · cases hv
theorem heavy_next (rk : RowOk P E) (ck : CallOk P call) {ev : Operand → Value} {h h' : Heap} {o : Oper} {v : Value} (hv : heavyV E call ev h o = some (v, h')) : h.next ≤ h'.next := by
  unfold heavyV at hv
  split at hv
  · obtain ⟨h2, hs, he2⟩ := Option.map_eq_some_iff.1 hv; cases he2; exact Nat.le_of_eq (storeV_next hs)
  · obtain ⟨h2, hs, he2⟩ := Option.map_eq_some_iff.1 hv; cases he2; exact Nat.le_of_eq (mapPut_next hs)
  · obtain ⟨h2, hs, he2⟩ := Option.map_eq_some_iff.1 hv; cases he2; exact Nat.le_of_eq (mapPut_next hs)
  · exact Nat.le_of_eq (mapEntry_next hv)
  · obtain ⟨h2, hs, he2⟩ := Option.map_eq_some_iff.1 hv; cases he2; exact Nat.le_of_eq (entryStore_next hs)
  · split at hv
    · exact sameV_next hv
    · cases hv
  · exact rangeV_next hv
  · exact nextV_next hv
  · exact entryV_next hv
  · exact makeChan_next hv
  · exact sel_next hv
  · split at hv
    · split at hv
      · exact append_next hv
      · cases hv
    · split at hv
      · exact Nat.le_of_eq (copy_next hv)
      · cases hv
    · split at hv
      · obtain ⟨h2, hs, he2⟩ := Option.map_eq_some_iff.1 hv; cases he2; exact Nat.le_of_eq (clear_next hs)
      · cases hv
    · split at hv
      · obtain ⟨h2, hs, he2⟩ := Option.map_eq_some_iff.1 hv; cases he2; exact Nat.le_of_eq (delete_next hs)
      · cases hv
    · split at hv
      · obtain ⟨h2, hs, he2⟩ := Option.map_eq_some_iff.1 hv; cases he2; exact Nat.le_refl _
      · cases hv
    · split at hv
      · exact Nat.le_of_eq (ustr_next hv)
      · cases hv
    · cases hv
    · split at hv
      · split at hv
        · rename_i r hr; exact (rk _ _ hr _ _ _ _ hv).1
        · exact ck.next _ _ _ _ _ hv
      · split at hv
        · exact ck.nextY _ _ _ _ _ hv
        · cases hv
      · cases hv
    · split at hv
      · replace hv := bind_some.1 hv; obtain ⟨gi, hgi, hv⟩ := hv
        exact ck.next _ _ _ _ _ hv
      · cases hv
  · cases hv

theorem run_enter {f : FuncId} (hf : Enters P f) (args : Array Value) (w : World) : (callFunc f args).run P w = .ok (.enter f args) w := by
  obtain ⟨fn, h1, h2, h3⟩ := hf
  simp [callFunc, h1, h2, h3]
theorem upon_call {rd : Option Nat} {o : Oper} {a : Act} {next : Act → World → Prop} {Q : Exit → Act → World → Prop} {f : FuncId} {args : Array Value} {h h' : Heap} {w : World} {v : Value}
    (hc : Calls P f args w (Post ρ h w v h')) (k : ∀ w' ρ' v', VRel ρ' v v' → Good ρ' h' w' → Stp ρ h w ρ' h' w' → next (a.put o.dst v') w') :
    o.uponIn (W rd) 0 P a next Q (.ok (.enter f args) w) := by
  refine ⟨W_deep, callsIn_W.2 (Calls.mono hc fun e w' hp => ?_)⟩
  obtain ⟨ρ', v', rfl, hv, hg, hs⟩ := hp
  exact k w' ρ' v' hv hg hs

theorem upon_round {rd : Option Nat} {o : Oper} {a : Act} {next : Act → World → Prop} {Q : Exit → Act → World → Prop} {l : Nat} {f : FuncId} {tmps : Array Value} {as bd : Code} {h h' : Heap} {w : World} {v : Value}
    (hc : RoundIn (W none) 0 P l f tmps as bd w (Post ρ h w v h')) (k : ∀ w' ρ' v', VRel ρ' v v' → Good ρ' h' w' → Stp ρ h w ρ' h' w' → next (a.put o.dst v') w') :
    o.uponIn (W rd) 0 P a next Q (.ok (.round l f tmps as bd) w) := by
  refine ⟨W_deep, roundIn_W (RoundIn.mono hc fun e w' hp => ?_)⟩
  obtain ⟨ρ', v', rfl, hv, hg, hs⟩ := hp
  exact k w' ρ' v' hv hg hs

theorem heavy_sound {rd : Option Nat} (ko : TysOk P E) (mo : MethOk P E) (rk : RowOk P E) (ck : CallOk P call) {h h' : Heap} {w : World} (g : Good ρ h w) (win : Win ρ h h') {ev ev' : Operand → Value} (he : ∀ x, VRel ρ (ev x) (ev' x)) {o : Oper} {v : Value}
    (hv : heavyV E call ev h o = some (v, h')) (nsel : ∀ cs bl, o.op ≠ .select cs bl) {a : Act} {next : Act → World → Prop} {Q : Exit → Act → World → Prop}
    (k : ∀ w' ρ' v', VRel ρ' v v' → Good ρ' h' w' → Stp ρ h w ρ' h' w' → next (a.put o.dst v') w') : o.uponIn (W rd) 0 P a next Q ((execOp ev' o).run P w) := by
  obtain ⟨dst, op, ty, pos, after, guard⟩ := o
  unfold heavyV at hv
  cases op <;> simp only [reduceCtorEq] at hv
  case store t x y =>
    obtain ⟨h2, hs, he2⟩ := Option.map_eq_some_iff.1 hv
    cases he2
    obtain ⟨w', run, g', s'⟩ := store_run (P := P) ko g (he x) (he y) hs
    have : (execOp ev' ⟨dst, .store t x y, ty, pos, after, guard⟩).run P w = .ok .skip w' := by simp [execOp, run]
    rw [this]; exact k w' ρ undef undef_rel g' s'
  case mapUpdate t m kk x =>
    obtain ⟨h2, hs, he2⟩ := Option.map_eq_some_iff.1 hv
    cases he2
    obtain ⟨w', run, g', s'⟩ := mapPut_run (P := P) ko g (he m) (he kk) (he x) hs
    have : (execOp ev' ⟨dst, .mapUpdate t m kk x, ty, pos, after, guard⟩).run P w = .ok .skip w' := by simp [execOp, run]
    rw [this]; exact k w' ρ undef undef_rel g' s'
  case insert t m kk x =>
    obtain ⟨h2, hs, he2⟩ := Option.map_eq_some_iff.1 hv
    cases he2
    obtain ⟨w', run, g', s'⟩ := mapPut_run (P := P) ko g (he m) (he kk) (he x) hs
    have : (execOp ev' ⟨dst, .insert t m kk x, ty, pos, after, guard⟩).run P w = .ok .skip w' := by simp [execOp, run]
    rw [this]; exact k w' ρ undef undef_rel g' s'
  case mapEntry t m kk =>
    obtain ⟨w', v', run, rv, g', s'⟩ := mapEntry_run (P := P) ko g (he m) (he kk) hv
    have : (execOp ev' ⟨dst, .mapEntry t m kk, ty, pos, after, guard⟩).run P w = .ok (.value v') w' := by simp [execOp, run]
    rw [this]; exact k w' ρ v' rv g' s'
  case entryStore t m s x =>
    obtain ⟨h2, hs, he2⟩ := Option.map_eq_some_iff.1 hv
    cases he2
    obtain ⟨w', run, g', s'⟩ := entryStore_run (P := P) (t := t) g (he m) (he s) (he x) hs
    have : (execOp ev' ⟨dst, .entryStore t m s x, ty, pos, after, guard⟩).run P w = .ok .skip w' := by simp [execOp, run]
    rw [this]; exact k w' ρ undef undef_rel g' s'
  case convert s d x =>
    split at hv
    · rename_i hsd
      subst hsd
      obtain ⟨w', v', run, rv, g', s'⟩ := same_run (P := P) ko g (he x) hv
      have : (execOp ev' ⟨dst, .convert s s x, ty, pos, after, guard⟩).run P w = .ok (.value v') w' := by simp [execOp, run]
      rw [this]; exact k w' ρ v' rv g' s'
    · cases hv
  case range t x =>
    obtain ⟨w', v', ρ', run, rv, g', s'⟩ := range_run (P := P) ko g win (he x) hv
    have : (execOp ev' ⟨dst, .range t x, ty, pos, after, guard⟩).run P w = .ok (.value v') w' := by simp [execOp, run]
    rw [this]; exact k w' ρ' v' rv g' s'
  case next it isS =>
    obtain ⟨w', v', run, rv, g', s'⟩ := next_run (P := P) g (he it) hv ty
    have : (execOp ev' ⟨dst, .next it isS, ty, pos, after, guard⟩).run P w = .ok (.value v') w' := by simp [execOp, run]
    rw [this]; exact k w' ρ v' rv g' s'
  case entry it =>
    obtain ⟨v', run, rv, rfl⟩ := entry_run (P := P) g (he it) hv
    have : (execOp ev' ⟨dst, .entry it, ty, pos, after, guard⟩).run P w = .ok (.value v') w := by simp [execOp, run]
    rw [this]; exact k w ρ v' rv g (.refl _ _ _)
  case makeChan t x =>
    obtain ⟨w', v', ρ', run, rv, g', s'⟩ := makeChan_run (P := P) ko g win (he x) hv
    have : (execOp ev' ⟨dst, .makeChan t x, ty, pos, after, guard⟩).run P w = .ok (.value v') w' := by simp [execOp, run]
    rw [this]; exact k w' ρ' v' rv g' s'
  case select cs bl => exact absurd rfl (nsel cs bl)
  case call c =>
    obtain ⟨callee, args, ats⟩ := c
    simp only at hv
    cases callee with
    | builtin b =>
      cases b <;> simp only [reduceCtorEq] at hv
      case append =>
        split at hv
        · rename_i s x t h0 h1 ht
          obtain ⟨w', v', ρ', run, rv, g', s'⟩ := append_run (P := P) (rt := ty) (ats := ats) (args := args.map ev') (s' := ev' s) (x' := ev' x) ko g win ht (by simp [h0]) (by simp [h1]) (he s) (he x) hv
          have : (execOp ev' ⟨dst, .call ⟨.builtin .append, args, ats⟩, ty, pos, after, guard⟩).run P w = .ok (.value v') w' := by
            show (do pure (Next.value (← Builtin.append_ ats ty (args.map ev'))) : Sem Next).run P w = _
            simp [run]
          rw [this]; exact k w' ρ' v' rv g' s'
        · cases hv
      case copy =>
        split at hv
        · rename_i s x t h0 h1 ht
          obtain ⟨w', v', run, rv, g', s'⟩ := copy_run (P := P) (rt := ty) (ats := ats) (args := args.map ev') (d' := ev' s) (x' := ev' x) ko g ht (by simp [h0]) (by simp [h1]) (he s) (he x) hv
          have : (execOp ev' ⟨dst, .call ⟨.builtin .copy, args, ats⟩, ty, pos, after, guard⟩).run P w = .ok (.value v') w' := by
            show (do pure (Next.value (← Builtin.copy_ ats ty (args.map ev'))) : Sem Next).run P w = _
            simp [run]
          rw [this]; exact k w' ρ v' rv g' s'
        · cases hv
      case clear =>
        split at hv
        · rename_i x t h0 ht
          obtain ⟨h2, hs, he2⟩ := Option.map_eq_some_iff.1 hv
          cases he2
          obtain ⟨w', run, g', s'⟩ := clear_run (P := P) (rt := ty) (ats := ats) (args := args.map ev') (x' := ev' x) ko g ht (by simp [h0]) (he x) hs
          have : (execOp ev' ⟨dst, .call ⟨.builtin .clear, args, ats⟩, ty, pos, after, guard⟩).run P w = .ok (.value (.tuple #[])) w' := by
            show (do pure (Next.value (← Builtin.clear_ ats ty (args.map ev'))) : Sem Next).run P w = _
            simp [run]
          rw [this]; exact k w' ρ _ undef_rel g' s'
        · cases hv
      case delete =>
        split at hv
        · rename_i m x t h0 h1 ht
          obtain ⟨h2, hs, he2⟩ := Option.map_eq_some_iff.1 hv
          cases he2
          obtain ⟨w', run, g', s'⟩ := delete_run (P := P) (rt := ty) (ats := ats) (args := args.map ev') (m' := ev' m) (k' := ev' x) ko g ht (by simp [h0]) (by simp [h1]) (he m) (he x) hs
          have : (execOp ev' ⟨dst, .call ⟨.builtin .delete, args, ats⟩, ty, pos, after, guard⟩).run P w = .ok (.value (.tuple #[])) w' := by
            show (do pure (Next.value (← Builtin.delete_ ats ty (args.map ev'))) : Sem Next).run P w = _
            simp [run]
          rw [this]; exact k w' ρ _ undef_rel g' s'
        · cases hv
      case unsafeSliceData =>
        split at hv
        · rename_i x h0
          obtain ⟨u, hs, he2⟩ := Option.map_eq_some_iff.1 hv
          cases he2
          have hargs : args = #[x] := by apply Array.ext'; exact h0
          subst hargs
          obtain ⟨v', run, rv⟩ := sdata_run (P := P) (w := w) (ats := ats) (rt := ty) (he x) hs
          have : (execOp ev' ⟨dst, .call ⟨.builtin .unsafeSliceData, #[x], ats⟩, ty, pos, after, guard⟩).run P w = .ok (.value v') w := by
            show (do pure (Next.value (← Builtin.unsafeSliceData_ ats ty (#[x].map ev'))) : Sem Next).run P w = _
            simp [run]
          rw [this]; exact k w ρ v' rv g (.refl _ _ _)
        · cases hv
      case unsafeString =>
        split at hv
        · rename_i x n t h0 ht
          have hargs : args = #[x, n] := by apply Array.ext'; exact h0
          subst hargs
          obtain ⟨w', v', run, rv, g', s'⟩ := ustr_run (P := P) ko (rt := ty) g ht (he x) (he n) hv
          have : (execOp ev' ⟨dst, .call ⟨.builtin .unsafeString, #[x, n], ats⟩, ty, pos, after, guard⟩).run P w = .ok (.value v') w' := by
            show (do pure (Next.value (← Builtin.unsafeString_ ats ty (#[x, n].map ev'))) : Sem Next).run P w = _
            simp [run]
          rw [this]; exact k w' ρ v' rv g' s'
        · cases hv
    | value f =>
      have hf := he f
      simp only at hv
      split at hv
      · rename_i gi first captured hfv
        rw [hfv] at hf
        cases hf' : ev' f <;> rw [hf'] at hf <;> cases hf
        rename_i l' c' hl hr kl kr
        have hall : VRels ρ (first.toList ++ (args.map ev).toList ++ captured.toList) ((l' ++ args.map ev') ++ c').toList := by
          rw [Array.toList_append, Array.toList_append]
          exact (VRels.append ⟨hl, hr⟩ (args_rel he args)).append ⟨kl, kr⟩
        split at hv
        · rename_i rw0 hrow
          obtain ⟨v', w', ρ', run, rv, g', s'⟩ := (rk _ _ hrow _ _ _ _ hv).2 ρ w _ g win hall
          have : (execOp ev' ⟨dst, .call ⟨.value f, args, ats⟩, ty, pos, after, guard⟩).run P w = .ok (.value v') w' := by
            rw [Array.append_assoc] at run
            simp [execOp, resolve, hf', Deferred.ofValue, invoke, run]
          rw [this]; exact k w' ρ' v' rv g' s'
        have hc := ck.calls _ _ _ _ _ hv ρ w _ g win hall
        have : (execOp ev' ⟨dst, .call ⟨.value f, args, ats⟩, ty, pos, after, guard⟩).run P w = .ok (.enter gi ((l' ++ args.map ev') ++ c')) w := by
          simp [execOp, resolve, hf', Deferred.ofValue, invoke, run_enter (ck.enters _ _ _ _ _ hv)]
        rw [this]; exact upon_call hc k
      · rename_i l first captured hfv
        rw [hfv] at hf
        split at hv
        · cases hf' : ev' f <;> rw [hf'] at hf <;> cases hf
          rename_i i hb hi hem
          obtain ⟨L, hL, hsz, hc⟩ := ck.rounds _ _ _ _ _ hv ρ w _ i hi g win (args_rel he args)
          have : (execOp ev' ⟨dst, .call ⟨.value f, args, ats⟩, ty, pos, after, guard⟩).run P w =
              .ok (.round i.blk L.fn ((L.params.zip (args.map ev')).foldl (fun tmps (t, a) => tmps.setIfInBounds t a) L.tmps) L.assign L.body) w := by
            have := run_yield (P := P) hL hsz
            simp [execOp, resolve, hf', Deferred.ofValue, invoke, this]
          rw [this]; exact upon_round hc k
        · cases hv
      · cases hv
    | invoke r name =>
      have hr := he r
      simp only at hv
      split at hv
      · rename_i t u hru
        replace hv := bind_some.1 hv; obtain ⟨gi, hgi, hv⟩ := hv
        rw [hru] at hr
        cases hr' : ev' r <;> rw [hr'] at hr <;> cases hr
        rename_i u' hu
        have hall : VRels ρ (u :: (args.map ev).toList) (#[u'] ++ args.map ev').toList := by
          rw [Array.toList_append]
          exact VRels.cons hu (args_rel he args)
        have hc := ck.calls _ _ _ _ _ hv ρ w _ g win hall
        have : (execOp ev' ⟨dst, .call ⟨.invoke r name, args, ats⟩, ty, pos, after, guard⟩).run P w = .ok (.enter gi (#[u'] ++ args.map ev')) w := by
          have e0 : (#[Value.iface t u'] ++ args.map ev')[0]? = some (.iface t u') := by
            rw [Array.getElem?_append_left (by simp)]; rfl
          have e1 : (#[Value.iface t u'] ++ args.map ev').extract 1 (#[Value.iface t u'] ++ args.map ev').size = args.map ev' := by
            apply Array.ext'; simp [List.take_of_length_le]
          have e2 := run_enter (w := w) (ck.enters _ _ _ _ _ hv) (#[u'] ++ args.map ev')
          simp only [execOp, resolve, hr', Sem.run_bind, Sem.run_pure, Result.andThen_ok, invoke, e0, e1, callMethod, run_program, mo _ _ _ hgi, e2]
        rw [this]; exact upon_call hc k
      · cases hv
end
end Go.Vi
