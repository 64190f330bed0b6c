/- Vi12: operations that write or call; one operation; regions in the text's order. Vi13: one operation; a region in the order of its text. Vi14a: what a plan says; the values that an operation hangs on. Vi14b: the run of a region in the order of its text, as rows of states. Vi14c: facts on the rows of states; facts on plans and on what has been carried out. Vi14d: what holds while a region is carried out in some order. Vi14e: an operation that is ready: what it reads, and where it stands among the heavy ones. Vi14: a region whose order is drawn. Vi15: code and calls. -/
import Derived.Test.YtenhhbammadpbaaGreatDoorVgB
import Derived.OrdersIn
import Derived.TacticsIn
import Derived.LoopNIn
import Derived.RangeFuncRecord
import Derived.LoopN
import Derived.Conc.LoneSelect
namespace Go.Vi
variable {K : Known}
def W (rd : Option Nat) : Fence := { Fence.wide with round := rd }
theorem W_room (rd : Option Nat) (n : Nat) : (W rd).room n := fun _ h => by simp [W, Fence.wide] at h
theorem W_deep {rd : Option Nat} {p : Prop} : (W rd).depth.isSome = true → p := fun h => by simp [W, Fence.wide] at h
theorem callsIn_W {rd : Option Nat} {n : Nat} {P : Program} {f : FuncId} {args : Array Value} {w : World} {R : Ending → World → Prop} : CallsIn (W rd) n P f args w R ↔ Calls P f args w R :=
  callsIn_wide (n := n)
theorem roundIn_W {rd rd' : Option Nat} {n n' : Nat} {P : Program} {l : Nat} {f : FuncId} {tmps : Array Value} {a b : Code} {w : World} {R : Ending → World → Prop}
    (h : RoundIn (W rd) n P l f tmps a b w R) : RoundIn (W rd') n' P l f tmps a b w R := ⟨trivial, fun c cs _ => h.2 c cs (W_room _ _)⟩
def Win (ρ : Map) (h h' : Heap) : Prop := ∀ b, h.next ≤ b → b < h'.next → ρ b = none
def Post (K : Known) (ρ : Map) (h : Heap) (w : World) (v : Value) (h' : Heap) : Ending → World → Prop :=
  fun e w' => ∃ ρ' v', e = .returned v' ∧ VRel ρ' v v' ∧ Good K ρ' h' w' ∧ Stp ρ h w ρ' h' w'
def Enters (P : Program) (f : FuncId) : Prop := ∃ fn, P.funcs[f]? = some fn ∧ fn.name ≠ "runtime.NumGoroutine" ∧ fn.body ≠ none
structure CallOk (K : Known) (P : Program) (call : CallV) : Prop where
  enters : ∀ f args h v h', call f args h = some (v, h') → Enters P f
  next : ∀ f args h v h', call f args h = some (v, h') → h.next ≤ h'.next
  calls : ∀ f args h v h', call f args h = some (v, h') → ∀ ρ w (args' : Array Value), Good K ρ h w → Win ρ h h' → VRels ρ args args'.toList → Calls P f args' w (Post K ρ h w v h')
  nextY : ∀ l args h v h', call.yld l args h = some (v, h') → h.next ≤ h'.next
  rounds : ∀ l args h v h', call.yld l args h = some (v, h') → ∀ ρ w (args' : Array Value) i, ρ l = some i → Good K ρ h w → Win ρ h h' → VRels ρ args args'.toList →
    ∃ L : Loop, w.heap[i.blk]? = some (.loop L) ∧ args'.size = L.params.size ∧
      RoundIn (W none) 0 P i.blk L.fn ((L.params.zip args').foldl (fun tmps (t, a) => tmps.setIfInBounds t a) L.tmps) L.assign L.body w (Post K ρ h w v h')
def RowOk (K : Known) (P : Program) (E : Env) : Prop := ∀ f g, E.row f = some g → ∀ args h v h', g args h = some (v, h') → h.next ≤ h'.next ∧
  ∀ ρ w (args' : Array Value), Good K ρ h w → Win ρ h h' → VRels ρ args args'.toList → ∃ v' w' ρ', (callFunc f args').run P w = .ok (.value v') w' ∧ VRel ρ' v v' ∧ Good K ρ' h' w' ∧ Stp ρ h w ρ' h' w'
def MethOk (P : Program) (E : Env) : Prop := ∀ t n f, E.meth t n = some f → ∀ v w, (method (P.types.size + Made.depth) t v n).run P w = .ok (f, v) w
section
variable {P : Program} {E : Env} {ρ : Map} {call : CallV}
theorem wrN_next {h h' : Heap} {a : Addr} {l : List Value} (hw : wrN h a l = some h') : h.next = h'.next := by
  unfold wrN at hw
  split at hw
  · split at hw
    · cases hw; rfl
    · cases hw
  · cases hw
theorem storeV_next {t : TypeId} {p v : Value} {h h' : Heap} (hs : storeV E t p v h = some h') : h.next = h'.next := by
  unfold storeV at hs
  replace hs := bind_some.1 hs; obtain ⟨i, hi, hs⟩ := hs
  replace hs := bind_some.1 hs; obtain ⟨a, ha, hs⟩ := hs
  simp only at hs
  split at hs
  · exact wrN_next hs
  · cases hs
theorem mapPut_next {t : TypeId} {m k v : Value} {h h' : Heap} (hp : mapPutV E t m k v h = some h') : h.next = h'.next := by
  unfold mapPutV at hp
  replace hp := bind_some.1 hp; obtain ⟨i, hi, hp⟩ := hp
  split at hp
  · replace hp := bind_some.1 hp; obtain ⟨ki, hki, hp⟩ := hp
    split at hp
    · cases hp
    · split at hp
      · split at hp <;> cases hp <;> rfl
      · split at hp
        · split at hp <;> cases hp <;> rfl
        · cases hp
  · cases hp
theorem mapEntry_next {t : TypeId} {m k v : Value} {h h' : Heap} (hp : mapEntryV E t m k h = some (v, h')) : h.next = h'.next := by
  unfold mapEntryV at hp
  replace hp := bind_some.1 hp; obtain ⟨i, hi, hp⟩ := hp
  split at hp
  · replace hp := bind_some.1 hp; obtain ⟨ki, hki, hp⟩ := hp
    replace hp := bind_some.1 hp; obtain ⟨e, he, hp⟩ := hp
    replace hp := bind_some.1 hp; obtain ⟨⟨es, c⟩, hme, hp⟩ := hp
    simp only at hp
    split at hp
    · cases hp
    · split at hp
      · replace hp := bind_some.1 hp; obtain ⟨x, hx, hp⟩ := hp; cases hp; rfl
      · replace hp := bind_some.1 hp; obtain ⟨x, hx, hp⟩ := hp; cases hp; rfl
      · cases hp
  · cases hp
theorem entryStore_next {m k v : Value} {h h' : Heap} (hp : entryStoreV m k v h = some h') : h.next = h'.next := by
  unfold entryStoreV at hp
  split at hp
  · replace hp := bind_some.1 hp; obtain ⟨⟨es, c⟩, hme, hp⟩ := hp
    replace hp := bind_some.1 hp; obtain ⟨n, hn, hp⟩ := hp
    replace hp := bind_some.1 hp; obtain ⟨j, hj, hp⟩ := hp
    replace hp := bind_some.1 hp; obtain ⟨x, hx, hp⟩ := hp
    cases hp; rfl
  · cases hp
theorem append_next {t : TypeId} {xt : Option TypeId} {s x v : Value} {h h' : Heap} (hap : appendV E t xt s x h = some (v, h')) : h.next ≤ h'.next := by
  unfold appendV at hap
  replace hap := bind_some.1 hap; obtain ⟨i, hi, hap⟩ := hap
  split at hap
  · replace hap := bind_some.1 hap; obtain ⟨e, he, hap⟩ := hap
    replace hap := bind_some.1 hap; obtain ⟨okx, hokx, hap⟩ := hap
    replace hap := bind_some.1 hap; obtain ⟨⟨n, new⟩, hsrc, hap⟩ := hap
    simp only at hap
    split at hap
    · cases hap
    · split at hap
      · split at hap
        · cases hap; exact Nat.le_refl _
        · split at hap
          · replace hap := bind_some.1 hap; obtain ⟨h2, hw, hap⟩ := hap
            cases hap; exact Nat.le_of_eq (wrN_next hw)
          · cases hap
      · split at hap
        · cases hap
        · split at hap
          · split at hap
            · cases hap; exact Nat.le_succ _
            · cases hap
          · split at hap
            · split at hap
              · split at hap
                · cases hap; exact Nat.le_succ _
                · split at hap
                  · cases hap; exact Nat.le_succ _
                  · cases hap
              · cases hap
            · cases hap
  · cases hap
theorem copy_next {t : TypeId} {d x v : Value} {h h' : Heap} (hc : copyV E t d x h = some (v, h')) : h.next = h'.next := by
  unfold copyV at hc
  replace hc := bind_some.1 hc; obtain ⟨i, hi, hc⟩ := hc
  split at hc
  · replace hc := bind_some.1 hc; obtain ⟨e, he, hc⟩ := hc
    replace hc := bind_some.1 hc; obtain ⟨⟨n, l⟩, hsrc, hc⟩ := hc
    simp only at hc
    split at hc
    · cases hc
    · split at hc
      · cases hc; rfl
      · split at hc
        · replace hc := bind_some.1 hc; obtain ⟨h2, hw, hc⟩ := hc
          cases hc; exact wrN_next hw
        · cases hc
  · cases hc
theorem clear_next {t : TypeId} {x : Value} {h h' : Heap} (hc : clearV E t x h = some h') : h.next = h'.next := by
  unfold clearV at hc
  replace hc := bind_some.1 hc; obtain ⟨i, hi, hc⟩ := hc
  split at hc
  · cases hc; rfl
  · replace hc := bind_some.1 hc; obtain ⟨e, he, hc⟩ := hc
    replace hc := bind_some.1 hc; obtain ⟨zl, hzl, hc⟩ := hc
    split at hc
    · exact wrN_next hc
    · cases hc
  · cases hc
theorem delete_next {t : TypeId} {m k : Value} {h h' : Heap} (hp : deleteV E t m k h = some h') : h.next = h'.next := by
  unfold deleteV at hp
  replace hp := bind_some.1 hp; obtain ⟨i, hi, hp⟩ := hp
  split at hp
  · replace hp := bind_some.1 hp; obtain ⟨ki, hki, hp⟩ := hp
    split at hp
    · cases hp; rfl
    · cases hp
  · replace hp := bind_some.1 hp; obtain ⟨ki, hki, hp⟩ := hp
    split at hp
    · cases hp
    · split at hp
      · split at hp <;> cases hp <;> rfl
      · split at hp
        · split at hp <;> cases hp <;> rfl
        · cases hp
  · cases hp
theorem range_run (ko : TysOk P E) {h h' : Heap} {w : World} (g : Good K ρ h w) (win : Win ρ h h') {t : TypeId} {x x' v : Value} (hx : VRel ρ x x') (hv : rangeV E t x h = some (v, h')) :
    ∃ w' v' ρ', (Instr.range t x').run P w = .ok v' w' ∧ VRel ρ' v v' ∧ Good K ρ' h' w' ∧ Stp ρ h w ρ' h' w' := by
  have key : ∀ (o : Obj) (b : Blk), h' = h.new b → (∀ ρ' : Map, Ext ρ ρ' → ORel ρ' b { blk := w.heap.size, base := 0, opn := none, tot := 0 } (w.alloc o)) → v = .pointer (some ⟨h.next, 0, none⟩) →
      (Instr.range t x').run P w = .ok (.pointer (some ⟨w.heap.size, 0, none⟩)) (w.alloc o) →
      ∃ w' v' ρ', (Instr.range t x').run P w = .ok v' w' ∧ VRel ρ' v v' ∧ Good K ρ' h' w' ∧ Stp ρ h w ρ' h' w' := by
    intro o b hh ho hvv run
    subst hh hvv
    have hn := win h.next (Nat.le_refl _) (by show h.next < h.next + 1; omega)
    obtain ⟨g', s'⟩ := step_new (i := { blk := w.heap.size, base := 0, opn := none, tot := 0 }) (w' := w.alloc o) g hn rfl ⟨by show (w.heap.push o).size = _; simp, rfl, rfl⟩
      (fun r hr => alloc_old w o r hr) (ho _ (upd_ext _ hn))
    exact ⟨_, _, _, run, .ptr h.next 0 _ upd_self, g', s'⟩
  unfold rangeV at hv
  replace hv := bind_some.1 hv; obtain ⟨i, hi, hv⟩ := hv
  split at hv
  · rename_i s hu
    cases hv
    have hx' := hx.string_inv
    subst hx'
    refine key (.stringIter s 0) (.sit s 0) rfl (fun ρ' _ => ⟨rfl, alloc_new w _⟩) rfl ?_
    simp [Instr.range, Sem.run_bind, run_und (ko _ _ hi), hu]
  · rename_i hu
    cases hv
    cases hx
    refine key (.mapIter none 0 #[] 0) (.mit none 0 [] 0) rfl (fun ρ' _ => ⟨rfl, none, alloc_new w _, rfl⟩) rfl ?_
    simp [Instr.range, Sem.run_bind, run_und (ko _ _ hi), hu]
  · rename_i m hu
    replace hv := bind_some.1 hv; obtain ⟨⟨es, c⟩, hm, hv⟩ := hv
    cases hv
    obtain ⟨b, j, es', hb1, hb, hget, rfl, hw, hr⟩ := mapOf_run g hx hm
    cases hb1
    refine key (.mapIter (some j.blk) c #[] c) (.mit (some m) c [] c) rfl (fun ρ' e => ⟨rfl, some j.blk, alloc_new w _, j, e _ _ hb, rfl⟩) rfl ?_
    simp [Instr.range, Sem.run_bind, run_und (ko _ _ hi), hu, run_getObj_map hw]
  · cases hv
theorem mrel_filter {es es' : List MapEntry} (p : Nat → Bool) (h : MRel ρ es es') : MRel ρ (es.filter fun e => p e.born) (es'.filter fun e => p e.born) := by
  induction es generalizing es' with
  | nil =>
    have := h.1
    cases es' with
    | nil => exact h
    | cons a b => simp at this
  | cons e es ih =>
    cases es' with
    | nil => have := h.1; simp at this
    | cons e' es' =>
      have h0 := h.2 0 e e' rfl rfl
      have hr : MRel ρ es es' := ⟨by simpa using h.1, fun j a b ha hb => h.2 (j + 1) a b ha hb⟩
      have := ih hr
      rw [List.filter_cons, List.filter_cons, h0.born]
      split
      · refine ⟨by simpa using this.1, fun j a b ha hb => ?_⟩
        cases j with
        | zero => cases ha; cases hb; exact h0
        | succ j => exact this.2 j a b ha hb
      · exact this
theorem mrel_all {es es' : List MapEntry} (p : Nat → Bool) (h : MRel ρ es es') : es'.all (fun e => p e.born) = es.all (fun e => p e.born) := by
  induction es generalizing es' with
  | nil => cases es' with
    | nil => rfl
    | cons a b => have := h.1; simp at this
  | cons e es ih =>
    cases es' with
    | nil => have := h.1; simp at this
    | cons e' es' =>
      rw [List.all_cons, List.all_cons, ih ⟨by simpa using h.1, fun j a b ha hb => h.2 (j + 1) a b ha hb⟩, (h.2 0 e e' rfl rfl).born]
theorem mrel_append {a a' b b' : List MapEntry} (h : MRel ρ a a') (k : MRel ρ b b') : MRel ρ (a ++ b) (a' ++ b') := by
  refine ⟨by simp [h.1, k.1], fun j x y hx hy => ?_⟩
  have hl := h.1
  by_cases hj : j < a.length
  · rw [List.getElem?_append_left hj] at hx
    rw [List.getElem?_append_left (by omega)] at hy
    exact h.2 j x y hx hy
  · rw [List.getElem?_append_right (by omega)] at hx
    rw [List.getElem?_append_right (by omega), ← hl] at hy
    exact k.2 _ x y hx hy
theorem run_getObj_at {w : World} {r : Nat} {o : Obj} (h : w.heap[r]? = some o) (hn : ∀ c e f, o ≠ .cells c e f) : (getObj r).run P w = .ok o w := by
  simp only [getObj, Sem.run, h]
  try (cases o <;> first | rfl | exact absurd rfl (hn _ _ _))
theorem run_setObj_at {w : World} {r : Nat} {o : Obj} (h : w.heap[r]? = some o) (hn : ∀ c e f, o ≠ .cells c e f) (o' : Obj) : (setObj r o').run P w = .ok () (w.putObj r o') := by
  simp only [setObj, Sem.run, h]
  cases o <;> first | rfl | exact absurd rfl (hn _ _ _)
theorem mrel_empty {l l' : List MapEntry} (h : MRel ρ l l') : l'.isEmpty = l.isEmpty := by
  have := h.1; cases l <;> cases l' <;> simp_all
theorem mrel_nil {l : List MapEntry} (h : MRel ρ [] l) : l = [] := by
  have := h.1; cases l <;> simp_all
theorem mrel_one {e : MapEntry} {l : List MapEntry} (h : MRel ρ [e] l) : ∃ e', l = [e'] ∧ MERel ρ e e' := by
  have h1 := h.1
  match l, h1 with
  | [e'], _ => exact ⟨e', rfl, h.2 0 e e' rfl rfl⟩
theorem set_obj {h : Heap} {w : World} (g : Good K ρ h w) {b : Nat} {i : Info} (hb : ρ b = some i) {o0 : Blk} (hget : h.get b = some o0) (hr0 : roB o0 = false) {o : Obj} {x : Blk} (hx : ORel ρ x i (w.putObj i.blk o)) :
    Good K ρ (h.set b x) (w.putObj i.blk o) ∧ Stp ρ h w ρ (h.set b x) (w.putObj i.blk o) :=
  step_set g hb (by rw [hget]; simp) ⟨by simp, rfl, rfl⟩ (fun r hr => World.putObj_heap_other hr) hx (g.toGood0.wr hb hget hr0)
theorem next_run {h h' : Heap} {w : World} (g : Good K ρ h w) {it it' v : Value} {isS : Bool} (hit : VRel ρ it it') (hv : nextV it isS h = some (v, h')) (ty : TypeId) :
    ∃ w' v', (Instr.next it' isS ty).run P w = .ok v' w' ∧ VRel ρ v v' ∧ Good K ρ h' w' ∧ Stp ρ h w ρ h' w' := by
  have over : VRel ρ (.tuple #[.bool false]) (.tuple #[.bool false]) := plain_rel 3 _ rfl
  unfold nextV at hv
  split at hv
  · rename_i r
    obtain ⟨i, hi, _, rfl⟩ := ptr_inv hit
    have hi : ρ r = some i := hi
    split at hv
    · rename_i s pos hget
      obtain ⟨hb, hw⟩ := g.rel _ _ _ hi hget
      split at hv
      · rename_i hpos
        cases hv
        obtain ⟨g', s'⟩ := set_obj g hi hget rfl (o := .stringIter s (pos + (Utf8.decode s pos).2)) (x := .sit s (pos + (Utf8.decode s pos).2)) ⟨hb, World.putObj_heap_same (g.ltL hi (by rw [hget]; simp))⟩
        refine ⟨_, _, ?_, plain_rel 3 _ rfl, g', s'⟩
        simp [Instr.next, hb, Sem.run_bind, run_getObj_at hw nofun, run_setObj_at hw nofun, hpos, goInt]
      · rename_i hpos
        cases hv
        refine ⟨w, _, ?_, over, g, .refl _ _ _⟩
        simp [Instr.next, hb, Sem.run_bind, run_getObj_at hw nofun, hpos]
    · rename_i since seen last hget
      cases hv
      obtain ⟨hb, m', hw, rfl⟩ := g.rel _ _ _ hi hget
      refine ⟨w, _, ?_, over, g, .refl _ _ _⟩
      simp [Instr.next, hb, Sem.run_bind, run_getObj_at hw nofun]
    · rename_i m since seen last hget
      obtain ⟨hb, m', hw, j, hj, rfl⟩ := g.rel _ _ _ hi hget
      split at hv
      · rename_i es clock hgm
        obtain ⟨es', hwm, hr⟩ := g.rel _ _ _ hj hgm
        split at hv
        · cases hv
        · rename_i hsup
          have hsup' : (!seen.isEmpty && !es'.isEmpty && es'.all (fun e => decide (e.born ≥ last))) = false := by
            have e1 : es'.isEmpty = es.isEmpty := by
              rw [← Array.isEmpty_toList]; exact mrel_empty hr
            have e2 : es'.all (fun e => decide (e.born ≥ last)) = es.all (fun e => decide (e.born ≥ last)) := by
              rw [← Array.all_toList]; exact mrel_all (fun n => decide (n ≥ last)) hr
            rw [e1, e2]; simpa using hsup
          have hO := mrel_filter (fun n => decide (n < since)) (mrel_filter (fun n => !seen.contains n) hr)
          have hN := mrel_filter (fun n => decide (n ≥ since)) (mrel_filter (fun n => !seen.contains n) hr)
          unfold candsOf oldOf newOf leftOf at hv
          generalize hO' : List.filter (fun e => decide (e.born < since)) (List.filter (fun e => !seen.contains e.born) es'.toList) = O' at hO
          generalize hN' : List.filter (fun e => decide (e.born ≥ since)) (List.filter (fun e => !seen.contains e.born) es'.toList) = N' at hN
          generalize List.filter (fun e => decide (e.born < since)) (List.filter (fun e => !seen.contains e.born) es) = O at hO hv
          generalize List.filter (fun e => decide (e.born ≥ since)) (List.filter (fun e => !seen.contains e.born) es) = N at hN hv
          have aO : Array.filter (fun e => decide (e.born < since)) (Array.filter (fun e => !(⟨seen⟩ : Array Nat).contains e.born) es') = ⟨O'⟩ := by
            apply Array.ext'; rw [Array.toList_filter, Array.toList_filter]; simpa using hO'
          have aN : Array.filter (fun e => decide (e.born ≥ since)) (Array.filter (fun e => !(⟨seen⟩ : Array Nat).contains e.born) es') = ⟨N'⟩ := by
            apply Array.ext'; rw [Array.toList_filter, Array.toList_filter]; simpa using hN'
          split at hv
          · rename_i e hc
            cases hv
            cases O with
            | nil => simp at hc
            | cons a O =>
              simp only [List.isEmpty_cons, Bool.false_eq_true, if_false, List.nil_append, List.cons_append, List.map_cons, List.cons.injEq, Option.some.injEq, List.map_eq_nil_iff, List.append_eq_nil_iff] at hc
              obtain ⟨rfl, rfl, rfl⟩ := hc
              obtain ⟨e', rfl, he⟩ := mrel_one hO
              have := mrel_nil hN
              subst this
              obtain ⟨g', s'⟩ := set_obj g hi hget rfl (o := .mapIter (some j.blk) since ⟨seen ++ [a.born]⟩ clock) (x := .mit (some m) since (seen ++ [a.born]) clock)
                ⟨hb, some j.blk, World.putObj_heap_same (g.ltL hi (by rw [hget]; simp)), j, hj, rfl⟩
              refine ⟨_, .tuple #[.bool true, e'.key, e'.val], ?_, VRel.tuple' (.cons (.bool _) (.cons he.key (.cons he.val .nil))), g', s'⟩
              unfold Instr.next
              simp only [hb, Sem.run_bind, run_getObj_at hw nofun, run_getObj_map hwm, Nat.zero_add, Result.andThen_ok]
              rw [if_neg (by simpa using hsup')]
              simp only [aO, aN, he.born]
              have hc1 : ((if (⟨[e']⟩ : Array MapEntry).isEmpty = true then #[none] else #[]) ++ Array.map some ((⟨[e']⟩ : Array MapEntry) ++ ⟨[]⟩)) = #[some e'] := by simp
              have hc2 : (choose (.mapNext 1)).run P w = .ok 0 w := rfl
              rw [hc1]
              simp only [List.size_toArray, List.length_cons, List.length_nil, Nat.zero_add, Sem.run_bind, hc2, Result.andThen_ok]
              simp [run_setObj_at hw nofun]
          · rename_i hc
            cases hv
            cases O with
            | nil =>
              have := mrel_nil hO
              subst this
              simp only [List.isEmpty_nil, if_true, List.nil_append, List.cons_append, List.cons.injEq, true_and, List.map_eq_nil_iff] at hc
              subst hc
              have := mrel_nil hN
              subst this
              refine ⟨w, _, ?_, over, g, .refl _ _ _⟩
              unfold Instr.next
              simp only [hb, Sem.run_bind, run_getObj_at hw nofun, run_getObj_map hwm, Nat.zero_add, Result.andThen_ok]
              rw [if_neg (by simpa using hsup')]
              simp only [aO, aN]
              have hc1 : ((if (⟨[]⟩ : Array MapEntry).isEmpty = true then #[none] else #[]) ++ Array.map some ((⟨[]⟩ : Array MapEntry) ++ ⟨[]⟩)) = #[none] := by simp
              have hc2 : (choose (.mapNext 1)).run P w = .ok 0 w := rfl
              rw [hc1]
              simp only [List.size_toArray, List.length_cons, List.length_nil, Nat.zero_add, Sem.run_bind, hc2, Result.andThen_ok]
              simp
            | cons a O => simp at hc
          · cases hv
      · cases hv
    · cases hv
  · cases hv
theorem mrel_find {es es' : List MapEntry} (p : Nat → Bool) (h : MRel ρ es es') {e : MapEntry} (he : es.find? (fun e => p e.born) = some e) : ∃ e', es'.find? (fun e => p e.born) = some e' ∧ MERel ρ e e' := by
  induction es generalizing es' with
  | nil => simp at he
  | cons a es ih =>
    cases es' with
    | nil => have := h.1; simp at this
    | cons a' es' =>
      have h0 := h.2 0 a a' rfl rfl
      have hr : MRel ρ es es' := ⟨by simpa using h.1, fun j x y hx hy => h.2 (j + 1) x y hx hy⟩
      rw [List.find?_cons] at he ⊢
      rw [← h0.born]
      split at he
      · cases he
        exact ⟨a', rfl, h0⟩
      · exact ih hr he
theorem entryV_next {it v : Value} {h h' : Heap} (hv : entryV it h = some (v, h')) : h.next ≤ h'.next := by
  unfold entryV at hv
  split at hv
  · split at hv
    · split at hv
      · split at hv
        · cases hv
        · obtain ⟨e, _, he⟩ := Option.map_eq_some_iff.1 hv
          cases he; exact Nat.le_refl _
      · cases hv
    · cases hv
  · cases hv
theorem entry_run {h h' : Heap} {w : World} (g : Good K ρ h w) {it it' v : Value} (hit : VRel ρ it it') (hv : entryV it h = some (v, h')) :
    ∃ v', (Instr.entry it').run P w = .ok v' w ∧ VRel ρ v v' ∧ h' = h := by
  unfold entryV at hv
  split at hv
  · rename_i r
    obtain ⟨i, hi, _, rfl⟩ := ptr_inv hit
    have hi : ρ r = some i := hi
    split at hv
    · rename_i m since seen stepped hget
      obtain ⟨hb, m', hw, j, hj, rfl⟩ := g.rel _ _ _ hi hget
      split at hv
      · rename_i stamp es clock hst hgm
        obtain ⟨es', hwm, hr⟩ := g.rel _ _ _ hj hgm
        split at hv
        · cases hv
        · rename_i hck
          obtain ⟨e, he, hee⟩ := Option.map_eq_some_iff.1 hv
          cases hee
          obtain ⟨e', he', hrel⟩ := mrel_find (fun n => n == stamp) hr he
          refine ⟨.tuple #[e'.key, e'.val], ?_, VRel.tuple' (.cons hrel.key (.cons hrel.val .nil)), rfl⟩
          have hck' : clock = stepped := by simpa using hck
          have hst' : (⟨seen⟩ : Array Nat).back? = some stamp := by
            rw [← hst]; simp [Array.back?, List.getLast?_eq_getElem?]
          have hf : es'.find? (fun e => e.born == stamp) = some e' := by
            rw [← Array.find?_toList]; exact he'
          unfold Instr.entry
          simp [hb, Sem.run_bind, run_getObj_at hw nofun, run_getObj_map hwm, hst', hck', hf]
      · cases hv
    · cases hv
  · cases hv
theorem sameV_next {t : TypeId} {x v : Value} {h h' : Heap} (hv : sameV E t x h = some (v, h')) : h.next ≤ h'.next := by
  unfold sameV at hv
  replace hv := bind_some.1 hv; obtain ⟨i, _, hv⟩ := hv
  split at hv
  · cases hv; exact Nat.le_refl _
  · cases hv; exact Nat.le_refl _
  · replace hv := bind_some.1 hv; obtain ⟨e, _, hv⟩ := hv
    split at hv
    · split at hv
      · cases hv; exact Nat.le_refl _
      · cases hv
    · cases hv
  · cases hv
theorem freeze_any {w : World} {b n : Nat} {c : Array Value} {e : TypeId} {fr : Nat × Nat} (h : w.heap[b]? = some (.cells c e fr)) : ∃ fr', (w.freeze ⟨b, n, none⟩ 1).heap[b]? = some (.cells c e fr') := by
  unfold World.freeze
  rw [if_neg (by omega)]
  obtain ⟨lo, hi⟩ := fr
  simp [h, Array.getElem?_modify]
theorem same_run (ko : TysOk P E) {h h' : Heap} {w : World} (g : Good K ρ h w) {t : TypeId} {x x' v : Value} (hx : VRel ρ x x') (hv : sameV E t x h = some (v, h')) :
    ∃ w' v', (convert t t x').run P w = .ok v' w' ∧ VRel ρ v v' ∧ Good K ρ h' w' ∧ Stp ρ h w ρ h' w' := by
  unfold sameV at hv
  replace hv := bind_some.1 hv; obtain ⟨i, hi, hv⟩ := hv
  split at hv
  · rename_i k k' n hu
    cases hv
    have hx' := hx.int_inv
    subst hx'
    exact ⟨w, _, by simp [convert, run_und (ko _ _ hi), hu, Conv.intToInt], .int _ _, g, .refl _ _ _⟩
  · rename_i s hu
    cases hv
    have hx' := hx.string_inv
    subst hx'
    exact ⟨w, _, by simp [convert, run_und (ko _ _ hi), hu], .string _, g, .refl _ _ _⟩
  · rename_i et a l c hu
    replace hv := bind_some.1 hv; obtain ⟨e, he, hv⟩ := hv
    split at hv
    · rename_i cs wr o hw hsp hget
      have hwo : (wr || o.isSome) = true := by
        by_cases q : (wr || o.isSome) = true
        · exact q
        · rw [if_neg q] at hv; cases hv
      rw [if_pos hwo] at hv
      cases hv
      have hx0 := hx
      cases hx with
      | sliceE a' => cases hsp
      | slice b o1 _ _ q o' cap' hq hlc ho hc hn hr =>
        obtain ⟨p1, cc, el, fr, p2, p3, p4, p5, _, p7⟩ := g.rel _ _ _ hq hget
        obtain ⟨fr', hfr⟩ := freeze_any (n := cc.size) p2
        obtain ⟨g', s'⟩ := step_set (o := .cells cs false o) (w' := w.freeze ⟨q.blk, cc.size, none⟩ 1) g hq (by rw [hget]; simp) ⟨freeze_size, freeze_side ⟨rfl, rfl⟩⟩
          (fun r hr => freeze_other hr) ⟨p1, cc, el, fr', hfr, p3, p4, p5, (fun h => by cases h), p7⟩ (g.toGood0.wr hq hget (by cases wr <;> cases o <;> first | rfl | cases hwo))
        refine ⟨_, _, ?_, hx0, g', s'⟩
        have hsh : w.shape? q.blk = some (el, cc.size) := by unfold World.shape?; rw [p2]
        simp [convert, run_und (ko _ _ hi), hu, run_und (ko _ _ he), hw, markStringish, run_shape, hsh]
    · cases hv
  · cases hv
theorem freeze_some {w : World} {b o n : Nat} {c : Array Value} {e : TypeId} {fr : Nat × Nat} (hn : n ≠ 0) (h : w.heap[b]? = some (.cells c e fr)) : ∃ fr', (w.freeze ⟨b, o, none⟩ n).heap[b]? = some (.cells c e fr') := by
  unfold World.freeze
  rw [if_neg hn]
  obtain ⟨lo, hi⟩ := fr
  simp [h, Array.getElem?_modify]
theorem freeze_others {w : World} {b o n r : Nat} (h : r ≠ b) : (w.freeze ⟨b, o, none⟩ n).heap[r]? = w.heap[r]? := by
  unfold World.freeze
  split
  · rfl
  · simp [Array.getElem?_modify, Ne.symm h]
theorem freeze_sizes {w : World} {a : Addr} {n : Nat} : (w.freeze a n).heap.size = w.heap.size := by
  unfold World.freeze
  split
  · rfl
  · simp
theorem loadBytes_run {w : World} : ∀ (l : List Value) (s : List UInt8) (a : Addr) (acc : ByteArray), unbytes l = some s → (∀ (j : Nat) v, l[j]? = some v → w.cell? (a.add j) = some v) →
    (loadBytes a acc l.length).run P w = .ok ⟨acc.data ++ s.toArray⟩ w := by
  intro l
  induction l with
  | nil => intro s a acc h _; simp [unbytes] at h; subst h; simp [loadBytes]
  | cons v l ih =>
    intro s a acc h hc
    unfold unbytes at h
    cases hv : unbyte v with
    | none => rw [hv] at h; cases h
    | some x =>
      cases hr : unbytes l with
      | none => rw [hv, hr] at h; cases h
      | some r =>
        rw [hv, hr] at h
        cases h
        have h0 : w.cell? a = some v := by
          have := hc 0 v rfl
          simpa [Addr.add] using this
        have ih := ih r (a.add 1) (acc.push x) hr (fun j y hy => by
          have := hc (j + 1) y (by simpa using hy)
          have e : (a.add 1).add j = a.add (j + 1) := by
            unfold Addr.add
            by_cases hj : j = 0
            · subst hj; simp
            · simp [hj]; omega
          rw [e]; exact this)
        unfold unbyte at hv
        split at hv
        · rename_i n
          cases hv
          have hx : (n.toNat).toUInt8 = UInt8.ofNat n.toNat := rfl
          simp only [List.length_cons, loadBytes, Sem.run_bind, run_load, h0, Result.andThen, hx]
          rw [ih]
          congr 1
          apply ByteArray.ext
          simp [ByteArray.push]
        · cases hv
theorem liesAt_row {e : TypeId} (hc : P.cellsOf e = 1) (count off n : Nat) (hn : off + n ≤ count) : liesAt P P.depth e count off e n = true := by
  have hd : P.depth = (2 * (P.types.size + Made.depth) + 1) + 1 := rfl
  rw [hd]
  simp only [liesAt, Bool.or_eq_true]
  left
  rw [hd]
  simp [rowAt, hc, hn, sameLayout, Nat.mod_one]
theorem ustr_next {t : TypeId} {p n v : Value} {h h' : Heap} (hv : ustrV E t p n h = some (v, h')) : h.next = h'.next := by
  unfold ustrV at hv
  split at hv
  · replace hv := bind_some.1 hv; obtain ⟨i, hi, hv⟩ := hv
    split at hv
    · replace hv := bind_some.1 hv; obtain ⟨j, hj, hv⟩ := hv
      split at hv
      · cases hv
      · split at hv
        · split at hv
          · replace hv := bind_some.1 hv; obtain ⟨l, hl, hv⟩ := hv
            replace hv := bind_some.1 hv; obtain ⟨s, hs, hv⟩ := hv
            cases hv; rfl
          · cases hv
        · cases hv
    · cases hv
  · cases hv
theorem sdata_run {w : World} {ats : Array TypeId} {rt : TypeId} {x x' v : Value} (hx : VRel ρ x x') (hv : sdataV x = some v) : ∃ v', (Builtin.unsafeSliceData_ ats rt #[x']).run P w = .ok v' w ∧ VRel ρ v v' := by
  unfold sdataV at hv
  split at hv
  · cases hv; cases hx; exact ⟨_, rfl, .ptr0⟩
  · rename_i b o l cap
    split at hv
    · cases hv
    · rename_i hc0
      cases hv
      cases hx with
      | slice _ _ _ _ q o' cap' hq hlc ho hc hn hr =>
        have ho' : o' = q.base + o := by rcases ho with ho | ho; exact ho; exact absurd ho.2.1 hc0
        subst ho'
        exact ⟨_, Lib.run_unsafeSliceData_row w _ _ _ _ _ (by omega), .ptr b o q hq⟩
  · cases hv
theorem ustr_run (ko : TysOk P E) {h h' : Heap} {w : World} (g : Good K ρ h w) {ats : Array TypeId} {rt t : TypeId} {p n p' n' v : Value} (ha : ats[0]? = some t) (hp : VRel ρ p p') (hn : VRel ρ n n') (hv : ustrV E t p n h = some (v, h')) :
    ∃ w' v', (Builtin.unsafeString_ ats rt #[p', n']).run P w = .ok v' w' ∧ VRel ρ v v' ∧ Good K ρ h' w' ∧ Stp ρ h w ρ h' w' := by
  unfold ustrV at hv
  split at hv
  · rename_i b o n
    replace hv := bind_some.1 hv; obtain ⟨i, hi, hv⟩ := hv
    split at hv
    · rename_i e hu
      replace hv := bind_some.1 hv; obtain ⟨j, hj, hv⟩ := hv
      split at hv
      · cases hv
      · rename_i hcond
        simp only [not_or, Decidable.not_not, Nat.not_lt, gt_iff_lt] at hcond
        obtain ⟨hn0, hsz1, hmax⟩ := hcond
        split at hv
        · rename_i cs wr z hget
          split at hv
          · rename_i hz
            subst hz
            replace hv := bind_some.1 hv; obtain ⟨l, hl, hv⟩ := hv
            replace hv := bind_some.1 hv; obtain ⟨s, hs, hv⟩ := hv
            cases hv
            obtain ⟨q, hq, _, rfl⟩ := ptr_inv hp
            have hq : ρ b = some q := hq
            have := hn.int_inv
            subst this
            obtain ⟨h1, c, el, fr, hc, hsz, hb, rel, hfz, hty⟩ := g.rel _ _ _ hq hget
            obtain ⟨hel, _⟩ := hty _ rfl
            have hel : e = el := hel.symm
            subst hel
            obtain ⟨l', rl, hll, hcell⟩ := rd_real g (a := ⟨b, o, none⟩) hq hl (q.base + o) rfl
            have := same_bytes l l' s rl hs
            subst this
            have hle : o + n ≤ cs.length := by
              unfold rdN at hl
              rw [hget] at hl
              simp only at hl
              split at hl
              · assumption
              · cases hl
            have hcell1 : P.cellsOf e = 1 := by
              obtain ⟨x, hx, hxs, _⟩ := (ko _ _ hj).info
              unfold Program.cellsOf; rw [hx]; simp only [Option.map_some, Option.getD_some]; omega
            have hlb := loadBytes_run (P := P) l' s ⟨q.blk, q.base + o, none⟩ .empty hs hcell
            rw [hll] at hlb
            have hlies := liesAt_row (P := P) hcell1 (c.size / P.cellsOf e) (q.base + o) n (by rw [hcell1, Nat.div_one]; omega)
            have hsh : w.shape? q.blk = some (e, c.size) := by unfold World.shape?; rw [hc]
            obtain ⟨fr', hfr⟩ := freeze_some (o := q.base + o) hn0 hc
            obtain ⟨g', s'⟩ := step_set (o := .cells cs false (some (1, e))) (w' := w.freeze ⟨q.blk, q.base + o, none⟩ n) g hq (by rw [hget]; simp) ⟨freeze_sizes, freeze_side ⟨rfl, rfl⟩⟩
              (fun r hr => freeze_others hr) ⟨h1, c, e, fr', hfr, hsz, hb, rel, (fun h => by cases h), hty⟩ (g.toGood0.wr hq hget (by simp [roB]))
            refine ⟨_, .string ⟨s.toArray⟩, ?_, .string _, g', s'⟩
            obtain ⟨m1, m2, m3, m4, hdef⟩ : ∃ m1 m2 m3 m4 : String, Builtin.unsafeString_ ats rt #[.pointer (some ⟨q.blk, q.base + o, none⟩), .int .i64 (.ofNat n)] =
                (do
                  let m ← asInt (.int .i64 (.ofNat n))
                  let some pt := ats[0]? | stuck m1
                  if m < 0 then runtimePanic (.error m2)
                  if m > IntKind.i64.max then unsupported (.unsafePointer m3)
                  if m = 0 then pure (.string .empty)
                  else if ← variablesAt ⟨q.blk, q.base + o, none⟩ (← elemOf pt) m.toNat then do
                    let s ← loadBytes ⟨q.blk, q.base + o, none⟩ .empty m.toNat
                    freeze ⟨q.blk, q.base + o, none⟩ m.toNat
                    pure (.string s)
                  else unsupported (.unsafePointer m4)) := ⟨_, _, _, _, rfl⟩
            show (Builtin.unsafeString_ ats rt #[.pointer (some ⟨q.blk, q.base + o, none⟩), .int .i64 (.ofNat n)]).run P w = _
            rw [hdef]
            have hm : IntKind.i64.max = 9223372036854775807 := rfl
            have h63 : ¬ (9223372036854775807 : Int) < (n : Int) := by omega
            have hneg : ¬ (n : Int) < 0 := by omega
            have hup : P.underlying t = some (.pointer e) := by rw [(ko _ _ hi).under, hu]
            simp [asInt, asIntOf, hm, h63, hneg, hn0, ha, variablesAt, hsh, elemOf, run_underlying hup, hlies, hlb]
          · cases hv
        · cases hv
    · cases hv
  · cases hv
theorem rangeV_next {t : TypeId} {x v : Value} {h h' : Heap} (hv : rangeV E t x h = some (v, h')) : h.next ≤ h'.next := by
  unfold rangeV at hv
  replace hv := bind_some.1 hv; obtain ⟨i, _, hv⟩ := hv
  split at hv
  · cases hv; exact Nat.le_succ _
  · cases hv; exact Nat.le_succ _
  · replace hv := bind_some.1 hv; obtain ⟨⟨es, c⟩, _, hv⟩ := hv
    cases hv; exact Nat.le_succ _
  · cases hv
theorem nextV_next {it v : Value} {isS : Bool} {h h' : Heap} (hv : nextV it isS h = some (v, h')) : h.next ≤ h'.next := by
  unfold nextV at hv
  split at hv
  · split at hv
    · split at hv
      · cases hv; exact Nat.le_refl _
      · cases hv; exact Nat.le_refl _
    · cases hv; exact Nat.le_refl _
    · split at hv
      · split at hv
        · cases hv
        · split at hv
          · cases hv; exact Nat.le_refl _
          · cases hv; exact Nat.le_refl _
          · cases hv
      · cases hv
    · cases hv
  · cases hv
theorem makeChan_run (ko : TysOk P E) {h h' : Heap} {w : World} (g : Good K ρ h w) (win : Win ρ h h') {t : TypeId} {x x' v : Value} (hx : VRel ρ x x') (hv : makeChanV E t x h = some (v, h')) :
    ∃ w' v' ρ', (Instr.makeChan t x').run P w = .ok v' w' ∧ VRel ρ' v v' ∧ Good K ρ' h' w' ∧ Stp ρ h w ρ' h' w' := by
  unfold makeChanV at hv
  replace hv := bind_some.1 hv; obtain ⟨i, hi, hv⟩ := hv
  split at hv
  · rename_i dir elem k n hu
    replace hv := bind_some.1 hv; obtain ⟨e, he, hv⟩ := hv
    split at hv
    · rename_i hb
      obtain ⟨hb1, hb2, hb3⟩ := hb
      cases hv
      have hx' := hx.int_inv
      subst hx'
      have hn := win h.next (Nat.le_refl _) (by show h.next < h.next + 1; omega)
      obtain ⟨ti, hti, htb, _, _⟩ := run_info (P := P) (ko _ _ he)
      obtain ⟨g', s'⟩ := step_new (o := .chan n.toNat []) (i := { blk := w.heap.size, base := 0, opn := none, tot := 0 }) (w' := w.alloc (.chan n.toNat #[] false 0 0 false)) g hn rfl
        ⟨by show (w.heap.push _).size = _; simp, rfl, rfl⟩ (fun r hr => alloc_old w _ r hr) ⟨#[], 0, 0, alloc_new w _, ⟨rfl, fun j a b => by simp at a⟩⟩
      refine ⟨_, _, _, ?_, .chan h.next _ upd_self, g', s'⟩
      have q1 : ¬ n < 0 := by omega
      have q2 : ¬ n > IntKind.i64.max := by
        have : IntKind.i64.max = 9223372036854775807 := by decide
        omega
      have q3 : ¬ ((ti.bytes : Int) * n > 2 ^ 48 - 112) := by rw [htb]; omega
      have q4 : ∀ w : World, (asInt (.int k n)).run P w = .ok n w := fun w => rfl
      simp only [Instr.makeChan, Sem.run_bind, Sem.run_pure, q4, run_und (ko _ _ hi), hu, hti, q1, q2, q3, Result.andThen_ok, run_newObj, if_false, or_self]
      rfl
    · cases hv
  · cases hv
theorem makeChan_next {t : TypeId} {x v : Value} {h h' : Heap} (hv : makeChanV E t x h = some (v, h')) : h.next ≤ h'.next := by
  unfold makeChanV at hv
  replace hv := bind_some.1 hv; obtain ⟨i, _, hv⟩ := hv
  split at hv
  · replace hv := bind_some.1 hv; obtain ⟨e, _, hv⟩ := hv
    split at hv
    · cases hv; exact Nat.le_succ _
    · cases hv
  · cases hv
theorem sel_next {ev : Operand → Value} {cs : Array SelectCase} {bl : Bool} {v : Value} {h h' : Heap} (hv : selV E ev h cs bl = some (v, h')) : h.next ≤ h'.next := by
  unfold selV at hv
  split at hv
  · replace hv := bind_some.1 hv; obtain ⟨i, _, hv⟩ := hv
    replace hv := bind_some.1 hv; obtain ⟨z, _, hv⟩ := hv
    split at hv
    · split at hv
      · split at hv
        · split at hv <;> cases hv <;> exact Nat.le_refl _
        · split at hv <;> cases hv <;> exact Nat.le_refl _
      · cases hv
    · cases hv
  · cases hv
theorem heavy_next (rk : RowOk K P E) (ck : CallOk K P call) {ev : Operand → Value} {h h' : Heap} {o : Oper} {v : Value} (hv : heavyV E call ev h o = some (v, h')) : h.next ≤ h'.next := by
  unfold heavyV at hv
  split at hv
  · obtain ⟨h2, hs, he2⟩ := Option.map_eq_some_iff.1 hv; cases he2; exact Nat.le_of_eq (storeV_next hs)
  · obtain ⟨h2, hs, he2⟩ := Option.map_eq_some_iff.1 hv; cases he2; exact Nat.le_of_eq (mapPut_next hs)
  · obtain ⟨h2, hs, he2⟩ := Option.map_eq_some_iff.1 hv; cases he2; exact Nat.le_of_eq (mapPut_next hs)
  · exact Nat.le_of_eq (mapEntry_next hv)
  · obtain ⟨h2, hs, he2⟩ := Option.map_eq_some_iff.1 hv; cases he2; exact Nat.le_of_eq (entryStore_next hs)
  · split at hv
    · exact sameV_next hv
    · cases hv
  · exact rangeV_next hv
  · exact nextV_next hv
  · exact entryV_next hv
  · exact makeChan_next hv
  · exact sel_next hv
  · split at hv
    · split at hv
      · exact append_next hv
      · cases hv
    · split at hv
      · exact Nat.le_of_eq (copy_next hv)
      · cases hv
    · split at hv
      · obtain ⟨h2, hs, he2⟩ := Option.map_eq_some_iff.1 hv; cases he2; exact Nat.le_of_eq (clear_next hs)
      · cases hv
    · split at hv
      · obtain ⟨h2, hs, he2⟩ := Option.map_eq_some_iff.1 hv; cases he2; exact Nat.le_of_eq (delete_next hs)
      · cases hv
    · split at hv
      · obtain ⟨h2, hs, he2⟩ := Option.map_eq_some_iff.1 hv; cases he2; exact Nat.le_refl _
      · cases hv
    · split at hv
      · exact Nat.le_of_eq (ustr_next hv)
      · cases hv
    · cases hv
    · split at hv
      · split at hv
        · rename_i r hr; exact (rk _ _ hr _ _ _ _ hv).1
        · exact ck.next _ _ _ _ _ hv
      · split at hv
        · exact ck.nextY _ _ _ _ _ hv
        · cases hv
      · cases hv
    · split at hv
      · replace hv := bind_some.1 hv; obtain ⟨gi, hgi, hv⟩ := hv
        exact ck.next _ _ _ _ _ hv
      · cases hv
  · cases hv
theorem run_enter {f : FuncId} (hf : Enters P f) (args : Array Value) (w : World) : (callFunc f args).run P w = .ok (.enter f args) w := by
  obtain ⟨fn, h1, h2, h3⟩ := hf
  simp [callFunc, h1, h2, h3]
theorem upon_call {rd : Option Nat} {o : Oper} {a : Act} {next : Act → World → Prop} {Q : Exit → Act → World → Prop} {f : FuncId} {args : Array Value} {h h' : Heap} {w : World} {v : Value}
    (hc : Calls P f args w (Post K ρ h w v h')) (k : ∀ w' ρ' v', VRel ρ' v v' → Good K ρ' h' w' → Stp ρ h w ρ' h' w' → next (a.put o.dst v') w') :
    o.uponIn (W rd) 0 P a next Q (.ok (.enter f args) w) := by
  refine ⟨W_deep, callsIn_W.2 (Calls.mono hc fun e w' hp => ?_)⟩
  obtain ⟨ρ', v', rfl, hv, hg, hs⟩ := hp
  exact k w' ρ' v' hv hg hs
theorem upon_round {rd : Option Nat} {o : Oper} {a : Act} {next : Act → World → Prop} {Q : Exit → Act → World → Prop} {l : Nat} {f : FuncId} {tmps : Array Value} {as bd : Code} {h h' : Heap} {w : World} {v : Value}
    (hc : RoundIn (W none) 0 P l f tmps as bd w (Post K ρ h w v h')) (k : ∀ w' ρ' v', VRel ρ' v v' → Good K ρ' h' w' → Stp ρ h w ρ' h' w' → next (a.put o.dst v') w') :
    o.uponIn (W rd) 0 P a next Q (.ok (.round l f tmps as bd) w) := by
  refine ⟨W_deep, roundIn_W (RoundIn.mono hc fun e w' hp => ?_)⟩
  obtain ⟨ρ', v', rfl, hv, hg, hs⟩ := hp
  exact k w' ρ' v' hv hg hs
theorem heavy_sound {rd : Option Nat} (ko : TysOk P E) (mo : MethOk P E) (rk : RowOk K P E) (ck : CallOk K P call) {h h' : Heap} {w : World} (g : Good K ρ h w) (win : Win ρ h h') {ev ev' : Operand → Value} (he : ∀ x, VRel ρ (ev x) (ev' x)) {o : Oper} {v : Value}
    (hv : heavyV E call ev h o = some (v, h')) (nsel : ∀ cs bl, o.op ≠ .select cs bl) {a : Act} {next : Act → World → Prop} {Q : Exit → Act → World → Prop}
    (k : ∀ w' ρ' v', VRel ρ' v v' → Good K ρ' h' w' → Stp ρ h w ρ' h' w' → next (a.put o.dst v') w') : o.uponIn (W rd) 0 P a next Q ((execOp ev' o).run P w) := by
  obtain ⟨dst, op, ty, pos, after, guard⟩ := o
  unfold heavyV at hv
  cases op <;> simp only [reduceCtorEq] at hv
  case store t x y =>
    obtain ⟨h2, hs, he2⟩ := Option.map_eq_some_iff.1 hv
    cases he2
    obtain ⟨w', run, g', s'⟩ := store_run (P := P) ko g (he x) (he y) hs
    have : (execOp ev' ⟨dst, .store t x y, ty, pos, after, guard⟩).run P w = .ok .skip w' := by simp [execOp, run]
    rw [this]; exact k w' ρ undef undef_rel g' s'
  case mapUpdate t m kk x =>
    obtain ⟨h2, hs, he2⟩ := Option.map_eq_some_iff.1 hv
    cases he2
    obtain ⟨w', run, g', s'⟩ := mapPut_run (P := P) ko g (he m) (he kk) (he x) hs
    have : (execOp ev' ⟨dst, .mapUpdate t m kk x, ty, pos, after, guard⟩).run P w = .ok .skip w' := by simp [execOp, run]
    rw [this]; exact k w' ρ undef undef_rel g' s'
  case insert t m kk x =>
    obtain ⟨h2, hs, he2⟩ := Option.map_eq_some_iff.1 hv
    cases he2
    obtain ⟨w', run, g', s'⟩ := mapPut_run (P := P) ko g (he m) (he kk) (he x) hs
    have : (execOp ev' ⟨dst, .insert t m kk x, ty, pos, after, guard⟩).run P w = .ok .skip w' := by simp [execOp, run]
    rw [this]; exact k w' ρ undef undef_rel g' s'
  case mapEntry t m kk =>
    obtain ⟨w', v', run, rv, g', s'⟩ := mapEntry_run (P := P) ko g (he m) (he kk) hv
    have : (execOp ev' ⟨dst, .mapEntry t m kk, ty, pos, after, guard⟩).run P w = .ok (.value v') w' := by simp [execOp, run]
    rw [this]; exact k w' ρ v' rv g' s'
  case entryStore t m s x =>
    obtain ⟨h2, hs, he2⟩ := Option.map_eq_some_iff.1 hv
    cases he2
    obtain ⟨w', run, g', s'⟩ := entryStore_run (P := P) (t := t) g (he m) (he s) (he x) hs
    have : (execOp ev' ⟨dst, .entryStore t m s x, ty, pos, after, guard⟩).run P w = .ok .skip w' := by simp [execOp, run]
    rw [this]; exact k w' ρ undef undef_rel g' s'
  case convert s d x =>
    split at hv
    · rename_i hsd
      subst hsd
      obtain ⟨w', v', run, rv, g', s'⟩ := same_run (P := P) ko g (he x) hv
      have : (execOp ev' ⟨dst, .convert s s x, ty, pos, after, guard⟩).run P w = .ok (.value v') w' := by simp [execOp, run]
      rw [this]; exact k w' ρ v' rv g' s'
    · cases hv
  case range t x =>
    obtain ⟨w', v', ρ', run, rv, g', s'⟩ := range_run (P := P) ko g win (he x) hv
    have : (execOp ev' ⟨dst, .range t x, ty, pos, after, guard⟩).run P w = .ok (.value v') w' := by simp [execOp, run]
    rw [this]; exact k w' ρ' v' rv g' s'
  case next it isS =>
    obtain ⟨w', v', run, rv, g', s'⟩ := next_run (P := P) g (he it) hv ty
    have : (execOp ev' ⟨dst, .next it isS, ty, pos, after, guard⟩).run P w = .ok (.value v') w' := by simp [execOp, run]
    rw [this]; exact k w' ρ v' rv g' s'
  case entry it =>
    obtain ⟨v', run, rv, rfl⟩ := entry_run (P := P) g (he it) hv
    have : (execOp ev' ⟨dst, .entry it, ty, pos, after, guard⟩).run P w = .ok (.value v') w := by simp [execOp, run]
    rw [this]; exact k w ρ v' rv g (.refl _ _ _)
  case makeChan t x =>
    obtain ⟨w', v', ρ', run, rv, g', s'⟩ := makeChan_run (P := P) ko g win (he x) hv
    have : (execOp ev' ⟨dst, .makeChan t x, ty, pos, after, guard⟩).run P w = .ok (.value v') w' := by simp [execOp, run]
    rw [this]; exact k w' ρ' v' rv g' s'
  case select cs bl => exact absurd rfl (nsel cs bl)
  case call c =>
    obtain ⟨callee, args, ats⟩ := c
    simp only at hv
    cases callee with
    | builtin b =>
      cases b <;> simp only [reduceCtorEq] at hv
      case append =>
        split at hv
        · rename_i s x t h0 h1 ht
          obtain ⟨w', v', ρ', run, rv, g', s'⟩ := append_run (P := P) (rt := ty) (ats := ats) (args := args.map ev') (s' := ev' s) (x' := ev' x) ko g win ht (by simp [h0]) (by simp [h1]) (he s) (he x) hv
          have : (execOp ev' ⟨dst, .call ⟨.builtin .append, args, ats⟩, ty, pos, after, guard⟩).run P w = .ok (.value v') w' := by
            show (do pure (Next.value (← Builtin.append_ ats ty (args.map ev'))) : Sem Next).run P w = _
            simp [run]
          rw [this]; exact k w' ρ' v' rv g' s'
        · cases hv
      case copy =>
        split at hv
        · rename_i s x t h0 h1 ht
          obtain ⟨w', v', run, rv, g', s'⟩ := copy_run (P := P) (rt := ty) (ats := ats) (args := args.map ev') (d' := ev' s) (x' := ev' x) ko g ht (by simp [h0]) (by simp [h1]) (he s) (he x) hv
          have : (execOp ev' ⟨dst, .call ⟨.builtin .copy, args, ats⟩, ty, pos, after, guard⟩).run P w = .ok (.value v') w' := by
            show (do pure (Next.value (← Builtin.copy_ ats ty (args.map ev'))) : Sem Next).run P w = _
            simp [run]
          rw [this]; exact k w' ρ v' rv g' s'
        · cases hv
      case clear =>
        split at hv
        · rename_i x t h0 ht
          obtain ⟨h2, hs, he2⟩ := Option.map_eq_some_iff.1 hv
          cases he2
          obtain ⟨w', run, g', s'⟩ := clear_run (P := P) (rt := ty) (ats := ats) (args := args.map ev') (x' := ev' x) ko g ht (by simp [h0]) (he x) hs
          have : (execOp ev' ⟨dst, .call ⟨.builtin .clear, args, ats⟩, ty, pos, after, guard⟩).run P w = .ok (.value (.tuple #[])) w' := by
            show (do pure (Next.value (← Builtin.clear_ ats ty (args.map ev'))) : Sem Next).run P w = _
            simp [run]
          rw [this]; exact k w' ρ _ undef_rel g' s'
        · cases hv
      case delete =>
        split at hv
        · rename_i m x t h0 h1 ht
          obtain ⟨h2, hs, he2⟩ := Option.map_eq_some_iff.1 hv
          cases he2
          obtain ⟨w', run, g', s'⟩ := delete_run (P := P) (rt := ty) (ats := ats) (args := args.map ev') (m' := ev' m) (k' := ev' x) ko g ht (by simp [h0]) (by simp [h1]) (he m) (he x) hs
          have : (execOp ev' ⟨dst, .call ⟨.builtin .delete, args, ats⟩, ty, pos, after, guard⟩).run P w = .ok (.value (.tuple #[])) w' := by
            show (do pure (Next.value (← Builtin.delete_ ats ty (args.map ev'))) : Sem Next).run P w = _
            simp [run]
          rw [this]; exact k w' ρ _ undef_rel g' s'
        · cases hv
      case unsafeSliceData =>
        split at hv
        · rename_i x h0
          obtain ⟨u, hs, he2⟩ := Option.map_eq_some_iff.1 hv
          cases he2
          have hargs : args = #[x] := by apply Array.ext'; exact h0
          subst hargs
          obtain ⟨v', run, rv⟩ := sdata_run (P := P) (w := w) (ats := ats) (rt := ty) (he x) hs
          have : (execOp ev' ⟨dst, .call ⟨.builtin .unsafeSliceData, #[x], ats⟩, ty, pos, after, guard⟩).run P w = .ok (.value v') w := by
            show (do pure (Next.value (← Builtin.unsafeSliceData_ ats ty (#[x].map ev'))) : Sem Next).run P w = _
            simp [run]
          rw [this]; exact k w ρ v' rv g (.refl _ _ _)
        · cases hv
      case unsafeString =>
        split at hv
        · rename_i x n t h0 ht
          have hargs : args = #[x, n] := by apply Array.ext'; exact h0
          subst hargs
          obtain ⟨w', v', run, rv, g', s'⟩ := ustr_run (P := P) ko (rt := ty) g ht (he x) (he n) hv
          have : (execOp ev' ⟨dst, .call ⟨.builtin .unsafeString, #[x, n], ats⟩, ty, pos, after, guard⟩).run P w = .ok (.value v') w' := by
            show (do pure (Next.value (← Builtin.unsafeString_ ats ty (#[x, n].map ev'))) : Sem Next).run P w = _
            simp [run]
          rw [this]; exact k w' ρ v' rv g' s'
        · cases hv
    | value f =>
      have hf := he f
      simp only at hv
      split at hv
      · rename_i gi first captured hfv
        rw [hfv] at hf
        cases hf' : ev' f <;> rw [hf'] at hf <;> cases hf
        rename_i l' c' hl hr kl kr
        have hall : VRels ρ (first.toList ++ (args.map ev).toList ++ captured.toList) ((l' ++ args.map ev') ++ c').toList := by
          rw [Array.toList_append, Array.toList_append]
          exact (VRels.append ⟨hl, hr⟩ (args_rel he args)).append ⟨kl, kr⟩
        split at hv
        · rename_i rw0 hrow
          obtain ⟨v', w', ρ', run, rv, g', s'⟩ := (rk _ _ hrow _ _ _ _ hv).2 ρ w _ g win hall
          have : (execOp ev' ⟨dst, .call ⟨.value f, args, ats⟩, ty, pos, after, guard⟩).run P w = .ok (.value v') w' := by
            rw [Array.append_assoc] at run
            simp [execOp, resolve, hf', Deferred.ofValue, invoke, run]
          rw [this]; exact k w' ρ' v' rv g' s'
        have hc := ck.calls _ _ _ _ _ hv ρ w _ g win hall
        have : (execOp ev' ⟨dst, .call ⟨.value f, args, ats⟩, ty, pos, after, guard⟩).run P w = .ok (.enter gi ((l' ++ args.map ev') ++ c')) w := by
          simp [execOp, resolve, hf', Deferred.ofValue, invoke, run_enter (ck.enters _ _ _ _ _ hv)]
        rw [this]; exact upon_call hc k
      · rename_i l first captured hfv
        rw [hfv] at hf
        split at hv
        · cases hf' : ev' f <;> rw [hf'] at hf <;> cases hf
          rename_i i hb hi hem
          obtain ⟨L, hL, hsz, hc⟩ := ck.rounds _ _ _ _ _ hv ρ w _ i hi g win (args_rel he args)
          have : (execOp ev' ⟨dst, .call ⟨.value f, args, ats⟩, ty, pos, after, guard⟩).run P w =
              .ok (.round i.blk L.fn ((L.params.zip (args.map ev')).foldl (fun tmps (t, a) => tmps.setIfInBounds t a) L.tmps) L.assign L.body) w := by
            have := run_yield (P := P) hL hsz
            simp [execOp, resolve, hf', Deferred.ofValue, invoke, this]
          rw [this]; exact upon_round hc k
        · cases hv
      · cases hv
    | invoke r name =>
      have hr := he r
      simp only at hv
      split at hv
      · rename_i t u hru
        replace hv := bind_some.1 hv; obtain ⟨gi, hgi, hv⟩ := hv
        rw [hru] at hr
        cases hr' : ev' r <;> rw [hr'] at hr <;> cases hr
        rename_i u' hu
        have hall : VRels ρ (u :: (args.map ev).toList) (#[u'] ++ args.map ev').toList := by
          rw [Array.toList_append]
          exact VRels.cons hu (args_rel he args)
        have hc := ck.calls _ _ _ _ _ hv ρ w _ g win hall
        have : (execOp ev' ⟨dst, .call ⟨.invoke r name, args, ats⟩, ty, pos, after, guard⟩).run P w = .ok (.enter gi (#[u'] ++ args.map ev')) w := by
          have e0 : (#[Value.iface t u'] ++ args.map ev')[0]? = some (.iface t u') := by
            rw [Array.getElem?_append_left (by simp)]; rfl
          have e1 : (#[Value.iface t u'] ++ args.map ev').extract 1 (#[Value.iface t u'] ++ args.map ev').size = args.map ev' := by
            apply Array.ext'; simp [List.take_of_length_le]
          have e2 := run_enter (w := w) (ck.enters _ _ _ _ _ hv) (#[u'] ++ args.map ev')
          simp only [execOp, resolve, hr', Sem.run_bind, Sem.run_pure, Result.andThen_ok, invoke, e0, e1, callMethod, run_program, mo _ _ _ hgi, e2]
        rw [this]; exact upon_call hc k
      · cases hv
end
end Go.Vi
namespace Go.Vi
variable {K : Known}
def TRel (ρ : Map) (t : Tmps) (a : Act) : Prop := t.length = a.tmps.size ∧ ∀ i, VRel ρ (t.getD i undef) (a.tmps.getD i undef)
def evR (a : Act) : Operand → Value
  | .tmp t => a.tmps.getD t undef
  | .const v => if plainB 100 v then v else undef
  | .global _ => undef
  | .func f => .func (.func f) #[] #[]
structure SRel (K : Known) (D : List Deferred) (ρ : Map) (s : St) (a : Act) (w : World) : Prop where
  t : TRel ρ s.1 a
  d : a.defers = D
  g : Good K ρ s.2 w
section
variable {P : Program} {E : Env} {ρ : Map} {call : CallV} {rd : Option Nat} {D : List Deferred}
theorem TRel.ext {ρ ρ' : Map} (e : Ext ρ ρ') {t : Tmps} {a : Act} (h : TRel ρ t a) : TRel ρ' t a := ⟨h.1, fun i => (h.2 i).ext e⟩
theorem TRel.ev {t : Tmps} {a : Act} (h : TRel ρ t a) (x : Operand) : VRel ρ (evV t x) (evR a x) := by
  cases x with
  | tmp i => exact h.2 i
  | const v =>
    simp only [evV, evR]
    split
    · rename_i hp; exact plain_rel _ _ hp
    · exact undef_rel
  | global g => exact undef_rel
  | func f => exact .func f _ _ _ _ rfl (fun _ h => absurd h (by simp)) rfl (fun _ h => absurd h (by simp))
theorem eval_ok {a : Act} {x : Operand} (h : okOperand x = true) : a.eval x = evR a x := by
  cases x with
  | tmp i => rfl
  | const v =>
    have h' : plainB 100 v = true := h
    simp only [Act.eval, evR, h', if_true]
  | global g => simp [okOperand] at h
  | func f => rfl
theorem exec_eq {a : Act} {o : Oper} (h : opOk o = true) : execOp a.eval o = execOp (evR a) o := by
  unfold opOk at h
  rw [Bool.and_eq_true] at h
  refine execOp_congr o (fun cs b hc => ?_) (fun x hx => eval_ok ?_)
  · rw [hc] at h; simp at h
  · have := Array.all_eq_true_iff_forall_mem.1 h.1 x hx
    exact this
theorem opOk_defer {o : Oper} (h : opOk o = true) : ∀ c, o.op ≠ .defer c := by
  intro c hc
  unfold opOk at h
  rw [Bool.and_eq_true, hc] at h
  simp at h
theorem opOk_sel {o : Oper} (h : opOk o = true) : ∀ cs bl, o.op ≠ .select cs bl := by
  intro cs bl hc
  unfold opOk at h
  rw [Bool.and_eq_true, hc] at h
  simp at h
theorem TRel.put {ρ' : Map} {t : Tmps} {a : Act} (h : TRel ρ' t a) {v v' : Value} (hv : VRel ρ' v v') (d : Option Tmp) : TRel ρ' (putV t d v) (a.put d v') := by
  cases d with
  | none => exact h
  | some d0 =>
    obtain ⟨d, hdd⟩ : ∃ d : Nat, d = d0 := ⟨d0, rfl⟩
    subst hdd
    refine ⟨by simp [putV, Act.put, h.1], fun i => ?_⟩
    have hl : List.length t = a.tmps.size := h.1
    simp only [putV, Act.put]
    by_cases hd : d < List.length t
    · by_cases hi : i = d
      · subst hi
        rw [List.getD_eq_getElem?_getD, List.getElem?_set, if_pos rfl, if_pos hd, Array.getD_eq_getD_getElem?, Array.getElem?_setIfInBounds, if_pos rfl, if_pos (by omega)]
        exact hv
      · rw [List.getD_eq_getElem?_getD, List.getElem?_set, if_neg (Ne.symm hi), Array.getD_eq_getD_getElem?, Array.getElem?_setIfInBounds, if_neg (Ne.symm hi), ← List.getD_eq_getElem?_getD, ← Array.getD_eq_getD_getElem?]
        exact h.2 i
    · have e1 : t.set d v = t := List.set_eq_of_length_le (by omega)
      have e2 : a.tmps.setIfInBounds d v' = a.tmps := Array.setIfInBounds_eq_of_size_le (by omega)
      rw [e1, e2]; exact h.2 i
theorem put_defers (a : Act) (d : Option Tmp) (v : Value) : (a.put d v).defers = a.defers := by cases d <;> rfl
theorem stepV_next (rk : RowOk K P E) (ck : CallOk K P call) {o : Oper} {s : St} {v : Value} {h' : Heap} (hs : stepV E call o s = some (v, h')) : s.2.next ≤ h'.next := by
  unfold stepV at hs
  simp only at hs
  split at hs
  · cases hs; exact Nat.le_refl _
  · split at hs
    · cases hs; exact Nat.le_refl _
    · split at hs
      · cases hs; exact Nat.le_succ _
      · exact heavy_next rk ck hs
theorem step_sound (ko : TysOk P E) (mo : MethOk P E) (rk : RowOk K P E) (ck : CallOk K P call) {t : Tmps} {h h' : Heap} {a : Act} {w : World} (g : Good K ρ h w) (tr : TRel ρ t a) {o : Oper} (ok : opOk o = true) (win : Win ρ h h') {v : Value}
    (hs : stepV E call o (t, h) = some (v, h')) {next : Act → World → Prop} {Q : Exit → Act → World → Prop}
    (k : ∀ w' ρ' v', VRel ρ' v v' → Good K ρ' h' w' → Stp ρ h w ρ' h' w' → next (a.put o.dst v') w') : o.wpIn (W rd) 0 P a w next Q := by
  refine ⟨fun _ _ => trivial, ?_⟩
  rw [Oper.semAt_eq _ _ _ (opOk_defer ok), exec_eq ok]
  have he := tr.ev
  unfold stepV at hs
  simp only at hs
  split at hs
  · rename_i v0 hp
    cases hs
    obtain ⟨v', rv, run⟩ := pure_sound (P := P) ko he hp
    rw [run]; exact k w ρ v' rv g (.refl _ _ _)
  · split at hs
    · rename_i v0 hr
      cases hs
      obtain ⟨v', rv, run⟩ := read_sound (P := P) ko g he hr
      rw [run]; exact k w ρ v' rv g (.refl _ _ _)
    · split at hs
      · rename_i b m hn
        cases hs
        obtain ⟨w', v', i, run, hi, hsz, hold, ho, hv⟩ := (new_sound (P := P) ko he hn w).out
        have hnw := win h.next (Nat.le_refl _) (by show h.next < h.next + 1; omega)
        obtain ⟨g', s'⟩ := step_new g hnw hi.1 hsz hold (by
          have e := upd_ext (ρ := ρ) i hnw
          exact ORel.move e rfl ho) hi.2
        rw [run]; exact k w' _ v' (hv _ _ upd_self) g' s'
      · exact heavy_sound ko mo rk ck g win he hs (opOk_sel ok) k
theorem wanted_eq {t : Tmps} {a : Act} (h : TRel ρ t a) (ops : Array Oper) (o : Oper) : wantedV ops o t = Region.wanted o (yielded ops a.tmps) := by
  unfold wantedV Region.wanted yielded
  cases hg : o.guard with
  | none => rfl
  | some p =>
    obtain ⟨j, want⟩ := p
    simp only
    cases hd : (ops[j]?).bind (·.dst) with
    | none => rfl
    | some d0 =>
      obtain ⟨d, hdd⟩ : ∃ d : Nat, d = d0 := ⟨d0, rfl⟩
      subst hdd
      simp only [Option.bind_some]
      have hl : List.length t = a.tmps.size := h.1
      have hr := h.2 d
      by_cases hlt : d < List.length t
      · have e1 : t[d]? = some t[d] := List.getElem?_eq_getElem hlt
        have e2 : a.tmps[d]? = some (a.tmps[d]'(by omega)) := Array.getElem?_eq_getElem (by omega)
        rw [List.getD_eq_getElem?_getD, e1, Array.getD_eq_getD_getElem?, e2] at hr
        simp only [Option.getD_some] at hr
        rw [e1, e2]
        generalize t[d] = x at hr
        generalize a.tmps[d]'_ = y at hr
        cases hr <;> first | rfl | (simp; done)
      · have e1 : t[d]? = none := List.getElem?_eq_none (by omega)
        have e2 : a.tmps[d]? = none := Array.getElem?_eq_none (by omega)
        rw [e1, e2]; rfl
theorem opsV_next (rk : RowOk K P E) (ck : CallOk K P call) {ops : Array Oper} : ∀ (r : List Oper) (s s' : St), opsV E call ops r s = some s' → s.2.next ≤ s'.2.next := by
  intro r
  induction r with
  | nil => intro s s' h; simp [opsV] at h; subst h; exact Nat.le_refl _
  | cons o r ih =>
    intro s s' h
    unfold opsV at h
    split at h
    · split at h
      · rename_i v h1 hs
        have := stepV_next rk ck hs
        have := ih _ _ h
        simp only at this; omega
      · cases h
    · have := ih _ _ h; exact this
theorem Win.sub {ρ ρ' : Map} {h h1 h2 h3 : Heap} {w w1 : World} (win : Win ρ h h3) (s : Stp ρ h w ρ' h1 w1) (hb : h2.next ≤ h3.next) : Win ρ' h1 h2 := by
  intro b h1' h2'
  have h0 : ρ b = none := win b (Nat.le_trans s.next h1') (by omega)
  cases hq : ρ' b with
  | none => rfl
  | some i => have := (s.dom b h0 (by rw [hq]; simp)).2; omega
theorem ops_sound (ko : TysOk P E) (mo : MethOk P E) (rk : RowOk K P E) (ck : CallOk K P call) {ops : Array Oper} : ∀ (r : List Oper) (s s' : St) (ρ : Map) (a : Act) (w : World), opsV E call ops r s = some s' → r.all opOk = true → SRel K D ρ s a w → Win ρ s.2 s'.2 →
    ∀ {Q : Exit → Act → World → Prop}, (∀ ρ' a' w', SRel K D ρ' s' a' w' → Stp ρ s.2 w ρ' s'.2 w' → Q .normal a' w') → wpListIn (W rd) 0 P ops Q r a w := by
  intro r
  induction r with
  | nil =>
    intro s s' ρ a w h _ sr win Q k
    simp [opsV] at h
    subst h
    exact k ρ a w sr (.refl _ _ _)
  | cons o r ih =>
    intro s s' ρ a w h hok sr win Q k
    rw [List.all_cons, Bool.and_eq_true] at hok
    unfold opsV at h
    unfold wpListIn
    rw [wanted_eq sr.t] at h
    split at h
    · rename_i hw
      rw [if_pos hw]
      split at h
      · rename_i v h1 hs
        have hn := opsV_next rk ck _ _ _ h
        simp only at hn
        have win1 : Win ρ s.2 h1 := fun b q1 q2 => win b q1 (by omega)
        refine step_sound ko mo rk ck sr.g sr.t hok.1 win1 hs fun w' ρ' v' rv g' st => ?_
        refine ih _ _ ρ' _ w' h hok.2 ⟨(sr.t.ext st.ext).put rv o.dst, by rw [put_defers]; exact sr.d, g'⟩ (win.sub st (Nat.le_refl _)) fun ρ2 a2 w2 sr2 st2 => ?_
        exact k ρ2 a2 w2 sr2 (Stp.trans sr.g.fresh g'.fresh st st2)
      · cases h
    · rename_i hw
      rw [if_neg hw]
      refine ⟨fun _ _ => trivial, ?_⟩
      refine ih _ _ ρ _ w h hok.2 ⟨sr.t.put undef_rel o.dst, by rw [put_defers]; exact sr.d, sr.g⟩ win k
end
end Go.Vi
namespace Go.Vi
def befOf (acc : Array Nat) (o : Oper) : Nat := o.after.foldl (fun s e => if Region.binds .any e then s ||| 2 ^ e.on ||| acc.getD e.on 0 else s) 0
theorem before_eq (ops : Array Oper) : Region.before ops = ops.toList.foldl (fun acc o => acc.push (befOf acc o)) #[] := by
  unfold Region.before
  rw [← Array.foldl_toList]
  rfl
theorem bits_fold (acc : Array Nat) : ∀ (l : List Edge) (s i : Nat), (l.foldl (fun s e => if Region.binds .any e then s ||| 2 ^ e.on ||| acc.getD e.on 0 else s) s).testBit i = true ↔
    s.testBit i = true ∨ ∃ e ∈ l, Region.binds .any e = true ∧ (i = e.on ∨ (acc.getD e.on 0).testBit i = true) := by
  intro l
  induction l with
  | nil => intro s i; simp
  | cons e l ih =>
    intro s i
    rw [List.foldl_cons, ih]
    by_cases hb : Region.binds .any e = true
    · rw [if_pos hb]
      simp only [Nat.testBit_or, Bool.or_eq_true, Nat.testBit_two_pow, decide_eq_true_eq, List.mem_cons]
      constructor
      · rintro ((h | h) | h)
        · rcases h with h | h
          · exact .inl h
          · exact .inr ⟨e, .inl rfl, hb, .inl h.symm⟩
        · exact .inr ⟨e, .inl rfl, hb, .inr h⟩
        · obtain ⟨x, hx, h1, h2⟩ := h; exact .inr ⟨x, .inr hx, h1, h2⟩
      · rintro (h | ⟨x, hx | hx, h1, h2⟩)
        · exact .inl (.inl (.inl h))
        · subst hx
          rcases h2 with h2 | h2
          · exact .inl (.inl (.inr h2.symm))
          · exact .inl (.inr h2)
        · exact .inr ⟨x, hx, h1, h2⟩
    · rw [if_neg hb]
      constructor
      · rintro (h | ⟨x, hx, h1, h2⟩)
        · exact .inl h
        · exact .inr ⟨x, by simp [hx], h1, h2⟩
      · rintro (h | ⟨x, hx, h1, h2⟩)
        · exact .inl h
        · rw [List.mem_cons] at hx
          rcases hx with rfl | hx
          · exact absurd h1 hb
          · exact .inr ⟨x, hx, h1, h2⟩
theorem before_get : ∀ (l : List Oper) (acc : Array Nat), (∃ ext : List Nat, (l.foldl (fun acc o => acc.push (befOf acc o)) acc).toList = acc.toList ++ ext ∧ ext.length = l.length) ∧
    ∀ (j : Nat) (o : Oper), l[j]? = some o → ∃ acc' : Array Nat, acc'.size = acc.size + j ∧ (∀ i, i < acc.size + j → acc'.getD i 0 = (l.foldl (fun acc o => acc.push (befOf acc o)) acc).getD i 0) ∧
      (l.foldl (fun acc o => acc.push (befOf acc o)) acc).getD (acc.size + j) 0 = befOf acc' o := by
  intro l
  induction l with
  | nil => intro acc; exact ⟨⟨[], by simp⟩, fun j o h => by simp at h⟩
  | cons o l ih =>
    intro acc
    obtain ⟨⟨ext, h1, h2⟩, h3⟩ := ih (acc.push (befOf acc o))
    refine ⟨⟨befOf acc o :: ext, by rw [List.foldl_cons, h1]; simp, by simp [h2]⟩, fun j x hx => ?_⟩
    have hget : ∀ i, i < acc.size → (l.foldl (fun acc o => acc.push (befOf acc o)) (acc.push (befOf acc o))).getD i 0 = acc.getD i 0 := by
      intro i hi
      rw [Array.getD_eq_getD_getElem?, ← Array.getElem?_toList, h1, List.getElem?_append_left (by simp; omega), Array.getElem?_toList, Array.getElem?_push, if_neg (by omega), ← Array.getD_eq_getD_getElem?]
    cases j with
    | zero =>
      simp at hx
      subst hx
      refine ⟨acc, rfl, fun i hi => by rw [List.foldl_cons]; exact (hget i (by omega)).symm, ?_⟩
      rw [List.foldl_cons, Array.getD_eq_getD_getElem?, ← Array.getElem?_toList, h1, List.getElem?_append_left (by simp), Array.getElem?_toList, Array.getElem?_push]
      simp
    | succ j =>
      obtain ⟨acc', q1, q2, q3⟩ := h3 j x (by simpa using hx)
      simp only [Array.size_push] at q1 q2 q3
      refine ⟨acc', by omega, fun i hi => ?_, ?_⟩
      · rw [List.foldl_cons]; exact q2 i (by omega)
      · rw [List.foldl_cons, show acc.size + (j + 1) = acc.size + 1 + j by omega]; exact q3
theorem befores_len (ops : Array Oper) : (befores ops).length = ops.size := by
  unfold befores
  rw [before_eq]
  obtain ⟨⟨ext, h1, h2⟩, _⟩ := before_get ops.toList #[]
  rw [h1]; simp [h2]
theorem befores_bit (ops : Array Oper) {j : Nat} {o : Oper} (ho : ops[j]? = some o) (he : edgesOk ops = true) (i : Nat) :
    ((befores ops).getD j 0).testBit i = true ↔ ∃ e ∈ o.after.toList, Region.binds .any e = true ∧ e.on < j ∧ (i = e.on ∨ ((befores ops).getD e.on 0).testBit i = true) := by
  obtain ⟨_, h3⟩ := before_get ops.toList #[]
  obtain ⟨acc', q1, q2, q3⟩ := h3 j o (by rw [Array.getElem?_toList]; exact ho)
  simp only [List.size_toArray, List.length_nil, Nat.zero_add] at q1 q2 q3
  have hD : ∀ i, (befores ops).getD i 0 = (ops.toList.foldl (fun acc o => acc.push (befOf acc o)) #[]).getD i 0 := by
    intro i
    unfold befores
    rw [before_eq, List.getD_eq_getElem?_getD, Array.getElem?_toList, ← Array.getD_eq_getD_getElem?]
  rw [hD j, q3]
  unfold befOf
  rw [← Array.foldl_toList, bits_fold]
  simp only [Nat.zero_testBit, Bool.false_eq_true, false_or]
  have hedge : ∀ e ∈ o.after.toList, Region.binds .any e = true → e.on < j := by
    intro e hm hb
    unfold edgesOk at he
    rw [List.all_eq_true] at he
    have := he (o, j) (by
      rw [List.mem_iff_getElem?]
      exact ⟨j, by rw [List.getElem?_zipIdx, Array.getElem?_toList, ho]; simp⟩)
    simp only at this
    have := Array.all_eq_true_iff_forall_mem.1 this e (by simpa using hm)
    simpa [hb] using this
  constructor
  · rintro ⟨e, hm, hb, h⟩
    have hlt := hedge e hm hb
    refine ⟨e, hm, hb, hlt, ?_⟩
    rw [hD, ← q2 _ hlt]; exact h
  · rintro ⟨e, hm, hb, hlt, h⟩
    refine ⟨e, hm, hb, ?_⟩
    rw [q2 _ hlt, ← hD]; exact h
theorem befores_out (ops : Array Oper) {j : Nat} (hj : ops.size ≤ j) : (befores ops).getD j 0 = 0 := by
  rw [List.getD_eq_getElem?_getD, List.getElem?_eq_none (by rw [befores_len]; exact hj)]; rfl
theorem befores_lt (ops : Array Oper) (he : edgesOk ops = true) : ∀ (j i : Nat), ((befores ops).getD j 0).testBit i = true → i < j := by
  intro j
  induction j using Nat.strongRecOn with
  | _ j ih =>
    intro i h
    by_cases hj : j < ops.size
    · obtain ⟨e, _, _, hlt, h⟩ := (befores_bit ops (Array.getElem?_eq_getElem hj) he i).1 h
      rcases h with rfl | h
      · exact hlt
      · have := ih _ hlt i h; omega
    · rw [befores_out ops (by omega)] at h; simp at h
section
variable {E : Env} {ev ev2 : Operand → Value}
theorem map_congr {ev ev2 : Operand → Value} {xs : Array Operand} (h : ∀ x ∈ xs, ev x = ev2 x) : xs.map ev = xs.map ev2 := Array.map_congr_left h
theorem parts_congr {ps : Array (Nat × Operand)} (h : ∀ x ∈ (ps.toList.map (·.2)).toArray, ev x = ev2 x) : partsV ev ps = partsV ev2 ps := by
  unfold partsV
  apply List.map_congr_left
  rintro ⟨i, x⟩ hm
  simp only
  rw [h x (by simp only [List.mem_toArray, List.mem_map]; exact ⟨(i, x), hm, rfl⟩)]
theorem opt_congr {o : Option Operand} (h : ∀ x ∈ o.toArray, ev x = ev2 x) : o.map ev = o.map ev2 := by
  cases o with
  | none => rfl
  | some x => simp only [Option.map_some]; rw [h x (by simp)]
theorem pure_congr {o : Oper} (h : ∀ x ∈ o.op.operands, ev x = ev2 x) : pureV E ev o = pureV E ev2 o := by
  obtain ⟨dst, op, ty, pos, after, guard⟩ := o
  unfold pureV
  cases op <;> simp only [Op.operands] at h <;> try rfl
  case move x => simp only [h x (by simp)]
  case assign x => simp only [h x (by simp)]
  case pick c a b => simp only [h c (by simp), h a (by simp), h b (by simp)]
  case build t ps => simp only [parts_congr h]
  case nilCheck x => simp only [h x (by simp)]
  case binOp op t x y yt => simp only [h x (by simp), h y (by simp)]
  case unOp op t x => simp only [h x (by simp)]
  case convert s d x => simp only [h x (by simp)]
  case makeInterface t x => simp only [h x (by simp)]
  case makeFunc fn f c =>
    cases fn <;> try rfl
    simp only [map_congr (xs := f) (fun x hx => h x (by simp [hx])), map_congr (xs := c) (fun x hx => h x (by simp [hx]))]
  case slice t x lo hi mx =>
    simp only [h x (by simp), opt_congr (o := lo) (fun x hx => h x (by simp [hx])), opt_congr (o := hi) (fun x hx => h x (by simp [hx])), opt_congr (o := mx) (fun x hx => h x (by simp [hx]))]
  case fieldAddr s x f => simp only [h x (by simp)]
  case field t x f => simp only [h x (by simp)]
  case indexAddr t x ix => simp only [h x (by simp), h ix (by simp)]
  case index t x ix => simp only [h x (by simp), h ix (by simp)]
  case typeAssert x xt a ok => simp only [h x (by simp)]
  case extract t ix => simp only [h t (by simp)]
  case call c =>
    obtain ⟨callee, args, ats⟩ := c
    cases callee with
    | value f => rfl
    | invoke r m => rfl
    | builtin b =>
      have ha : args.map ev = args.map ev2 := map_congr (fun x hx => h x (by simp [Call.operands, hx]))
      cases b <;> try rfl
      case len =>
        cases ht : ats[0]? with
        | none => simp only [ht]
        | some t => cases hx : args[0]? with
          | none => simp only [ht, hx]
          | some x =>
            have := h x (by simp only [Call.operands]; have := Array.mem_of_getElem? hx; simp [this])
            simp only [ht, hx, this]
      case min => simp only [ha]
      case max => simp only [ha]
theorem read_congr {hp : Heap} {o : Oper} (h : ∀ x ∈ o.op.operands, ev x = ev2 x) : readV E ev hp o = readV E ev2 hp o := by
  obtain ⟨dst, op, ty, pos, after, guard⟩ := o
  unfold readV
  cases op <;> simp only [Op.operands] at h <;> try rfl
  case load t a => simp only [h a (by simp)]
  case convert s d x => simp only [h x (by simp)]
  case slice t x lo hi mx =>
    simp only [h x (by simp), opt_congr (o := lo) (fun x hx => h x (by simp [hx])), opt_congr (o := hi) (fun x hx => h x (by simp [hx])), opt_congr (o := mx) (fun x hx => h x (by simp [hx]))]
  case lookup t x ix ok => simp only [h x (by simp), h ix (by simp)]
  case call c =>
    obtain ⟨callee, args, ats⟩ := c
    cases callee with
    | value f => rfl
    | invoke r m => rfl
    | builtin b =>
      cases b <;> try rfl
      case len =>
        cases ht : ats[0]? with
        | none => simp only [ht]
        | some t => cases hx : args[0]? with
          | none => simp only [ht, hx]
          | some x =>
            have := h x (by simp only [Call.operands]; have := Array.mem_of_getElem? hx; simp [this])
            simp only [ht, hx, this]
      case cap =>
        cases ht : ats[0]? with
        | none => simp only [ht]
        | some t => cases hx : args[0]? with
          | none => simp only [ht, hx]
          | some x =>
            have := h x (by simp only [Call.operands]; have := Array.mem_of_getElem? hx; simp [this])
            simp only [ht, hx, this]
theorem new_congr {o : Oper} (h : ∀ x ∈ o.op.operands, ev x = ev2 x) : newV E ev o = newV E ev2 o := by
  obtain ⟨dst, op, ty, pos, after, guard⟩ := o
  unfold newV
  cases op <;> simp only [Op.operands] at h <;> try rfl
  case box t x => simp only [h x (by simp)]
  case buildSlice t n ps => simp only [parts_congr h]
  case makeSlice t l c => simp only [h l (by simp), h c (by simp)]
  case makeMap t r => simp only [opt_congr (o := r) (fun x hx => h x hx)]
  case convert s d x => simp only [h x (by simp)]
theorem heavy_congr {call : CallV} {hp : Heap} {o : Oper} (h : ∀ x ∈ o.op.operands, ev x = ev2 x) : heavyV E call ev hp o = heavyV E call ev2 hp o := by
  obtain ⟨dst, op, ty, pos, after, guard⟩ := o
  unfold heavyV
  cases op <;> simp only [Op.operands] at h <;> try rfl
  case store t a x => simp only [h a (by simp), h x (by simp)]
  case mapUpdate t m k x => simp only [h m (by simp), h k (by simp), h x (by simp)]
  case insert t m k x => simp only [h m (by simp), h k (by simp), h x (by simp)]
  case mapEntry t m k => simp only [h m (by simp), h k (by simp)]
  case entryStore t m s x => simp only [h m (by simp), h s (by simp), h x (by simp)]
  case convert s d x => simp only [h x (by simp)]
  case range t x => simp only [h x (by simp)]
  case next x b => simp only [h x (by simp)]
  case entry x => simp only [h x (by simp)]
  case makeChan t x => simp only [h x (by simp)]
  case select cs bl =>
    simp only
    unfold selV
    split
    · rename_i _ _ c hcs
      have hm : c ∈ cs := by rw [← Array.mem_toList_iff, hcs]; simp
      have h1 : ev c.chan = ev2 c.chan := h _ (by rw [Array.mem_flatMap]; exact ⟨c, hm, by simp⟩)
      have h2 : ∀ x, c.send = some x → ev x = ev2 x := fun x hx => h _ (by rw [Array.mem_flatMap]; exact ⟨c, hm, by simp [hx]⟩)
      rw [h1]
      cases hs : c.send with
      | none => rfl
      | some x => simp only [h2 x hs]
    · rfl
  case call c =>
    obtain ⟨callee, args, ats⟩ := c
    have ha : args.map ev = args.map ev2 := map_congr (fun x hx => h x (by simp [Call.operands, hx]))
    have hx : ∀ (n : Nat) (x : Operand), args[n]? = some x → ev x = ev2 x := fun n x hx => h x (by
      have := Array.mem_of_getElem? hx
      simp [Call.operands, this])
    cases callee with
    | value f => simp only [h f (by simp [Call.operands]), ha]
    | invoke r m => simp only [h r (by simp [Call.operands]), ha]
    | builtin b =>
      cases b <;> try rfl
      case append =>
        cases h0 : args[0]? <;> cases h1 : args[1]? <;> cases h2 : ats[0]? <;> try (simp only [h0, h1, h2]; done)
        rename_i s x t
        simp only [h0, h1, h2, hx 0 s h0, hx 1 x h1]
      case copy =>
        cases h0 : args[0]? <;> cases h1 : args[1]? <;> cases h2 : ats[0]? <;> try (simp only [h0, h1, h2]; done)
        rename_i s x t
        simp only [h0, h1, h2, hx 0 s h0, hx 1 x h1]
      case clear =>
        cases h0 : args[0]? <;> cases h2 : ats[0]? <;> try (simp only [h0, h2]; done)
        rename_i s t
        simp only [h0, h2, hx 0 s h0]
      case delete =>
        cases h0 : args[0]? <;> cases h1 : args[1]? <;> cases h2 : ats[0]? <;> try (simp only [h0, h1, h2]; done)
        rename_i s x t
        simp only [h0, h1, h2, hx 0 s h0, hx 1 x h1]
      case unsafeSliceData =>
        cases h0 : args.toList with
        | nil => simp only [h0]
        | cons x r => cases r with
          | nil =>
            have h1 : args[0]? = some x := by rw [← Array.getElem?_toList, h0]; rfl
            simp only [h0, hx 0 x h1]
          | cons y r => simp only [h0]
      case unsafeString =>
        cases h0 : args.toList with
        | nil => simp only [h0]
        | cons x r => cases r with
          | nil => simp only [h0]
          | cons y r => cases r with
            | nil =>
              have h1 : args[0]? = some x := by rw [← Array.getElem?_toList, h0]; rfl
              have h2 : args[1]? = some y := by rw [← Array.getElem?_toList, h0]; rfl
              cases h3 : ats[0]? with
              | none => simp only [h0, h3]
              | some t => simp only [h0, h3, hx 0 x h1, hx 1 y h2]
            | cons z r => simp only [h0]
theorem heavy_no {call : CallV} {hp : Heap} {o : Oper} (h : heavyOp o = false) : heavyV E call ev hp o = none := by
  obtain ⟨dst, op, ty, pos, after, guard⟩ := o
  unfold heavyOp at h
  unfold heavyV
  cases op <;> simp only [reduceCtorEq] at h <;> try rfl
  case convert s d x => simp only; rw [if_neg (by simpa using h)]
  case call c =>
    obtain ⟨callee, args, ats⟩ := c
    cases callee with
    | value f => simp at h
    | invoke r m => simp at h
    | builtin b => cases b <;> simp at h <;> rfl
theorem light_no {hp : Heap} {o : Oper} (h : heavyOp o = true) : pureV E ev o = none ∧ readV E ev hp o = none ∧ newV E ev o = none := by
  obtain ⟨dst, op, ty, pos, after, guard⟩ := o
  unfold heavyOp at h
  unfold pureV readV newV
  cases op <;> simp only [Bool.false_eq_true] at h <;> try exact ⟨rfl, rfl, rfl⟩
  case convert s d x =>
    have : s = d := by simpa using h
    subst this
    simp
  case call c =>
    obtain ⟨callee, args, ats⟩ := c
    cases callee with
    | value f => exact ⟨rfl, rfl, rfl⟩
    | invoke r m => exact ⟨rfl, rfl, rfl⟩
    | builtin b => cases b <;> simp at h <;> exact ⟨rfl, rfl, rfl⟩
end
mutual
theorem veq_eq : ∀ (n : Nat) (x y : Value), veq n x y = true → x = y
  | 0, _, _ => fun h => by simp [veq] at h
  | n + 1, x, y => fun h => by
    cases x <;> cases y <;> simp only [veq, Bool.false_eq_true, Bool.and_eq_true, beq_iff_eq] at h
    case bool.bool => rw [h]
    case int.int => rw [h.1, h.2]
    case string.string a b => rw [ByteArray.ext (Array.ext' h)]
    case pointer.pointer => rw [h]
    case slice.slice => rw [h.1.1, h.1.2, h.2]
    case map.map => rw [h]
    case chan.chan => rw [h]
    case func.func f a b g c d => rw [h.1.1, Array.ext' (veqs_eq n _ _ h.1.2), Array.ext' (veqs_eq n _ _ h.2)]
    case nilFunc.nilFunc => rfl
    case iface.iface => rw [h.1, veq_eq n _ _ h.2]
    case nilIface.nilIface => rfl
    case agg.agg a b => rw [Array.ext' (veqs_eq n _ _ h)]
    case tuple.tuple a b => rw [Array.ext' (veqs_eq n _ _ h)]
theorem veqs_eq : ∀ (n : Nat) (x y : List Value), veqs n x y = true → x = y
  | 0, _, _ => fun h => by simp [veqs] at h
  | n + 1, x, y => fun h => by
    cases x <;> cases y <;> simp only [veqs, Bool.false_eq_true, Bool.and_eq_true] at h
    · rfl
    · rw [veq_eq n _ _ h.1, veqs_eq n _ _ h.2]
end
end Go.Vi
namespace Go.Vi
def heavyAt (ops : Array Oper) (i : Nat) : Bool := match ops[i]? with | some o => heavyOp o | none => false
def hidx (ops : Array Oper) : List Nat := (List.range ops.size).filter (heavyAt ops)
structure Tr (E : Env) (call : CallV) (ops : Array Oper) (j0 : Nat) (T : Nat → Tmps) (H : Nat → Heap) (V : Nat → Value) : Prop where
  run : ∀ j o, j0 ≤ j → ops[j]? = some o → wantedV ops o (T j) = true → stepV E call o (T j, H j) = some (V j, H (j + 1))
  off : ∀ j o, j0 ≤ j → ops[j]? = some o → wantedV ops o (T j) = false → V j = undef ∧ H (j + 1) = H j
  tm : ∀ j o, j0 ≤ j → ops[j]? = some o → T (j + 1) = putV (T j) o.dst (V j)
def Reads (E : Env) (ops : Array Oper) (T : Nat → Tmps) (H : Nat → Heap) (j : Nat) (o : Oper) : Prop :=
  ops[j]? = some o ∧ heavyOp o = false ∧ wantedV ops o (T j) = true ∧ pureV E (evV (T j)) o = none ∧ (readV E (evV (T j)) (H j) o).isSome = true
section
variable {E : Env} {call : CallV} {ops : Array Oper}
theorem drawV_trace : ∀ (r : List Oper) (j : Nat) (s : St) (hs : List Heap) (rs : List Seen) (s' : St) (hs' : List Heap) (rs' : List Seen), ops.toList.drop j = r → j ≤ ops.size → drawV E call ops r j s hs rs = some (s', hs', rs') →
    ∃ T H V, T j = s.1 ∧ H j = s.2 ∧ Tr E call ops j T H V ∧ T ops.size = s'.1 ∧ H ops.size = s'.2 ∧
      hs' = hs ++ ((List.range' j (ops.size - j)).filter (heavyAt ops)).map H ++ [H ops.size] ∧ (∀ x ∈ rs, x ∈ rs') ∧
      ∀ i o, j ≤ i → Reads E ops T H i o → (⟨i, o, T i, V i⟩ : Seen) ∈ rs' := by
  intro r
  induction r with
  | nil =>
    intro j s hs rs s' hs' rs' hr hj h
    simp only [drawV, Option.some.injEq, Prod.mk.injEq] at h
    obtain ⟨rfl, rfl, rfl⟩ := h
    have hjn : j = ops.size := by
      have := congrArg List.length hr
      simp at this; omega
    subst hjn
    have hno : ∀ j o, ops.size ≤ j → ops[j]? = some o → False := fun j o h1 h2 => by
      rw [Array.getElem?_eq_none h1] at h2; cases h2
    exact ⟨fun _ => s.1, fun _ => s.2, fun _ => undef, rfl, rfl, ⟨fun j o h1 h2 => (hno j o h1 h2).elim, fun j o h1 h2 => (hno j o h1 h2).elim, fun j o h1 h2 => (hno j o h1 h2).elim⟩, rfl, rfl, by simp, fun x hx => hx,
      fun i o h1 h2 => (hno i o h1 h2.1).elim⟩
  | cons o r ih =>
    intro j s hs rs s' hs' rs' hr hj h
    have hlt : j < ops.size := by
      have := congrArg List.length hr
      simp at this; omega
    have ho : ops[j]? = some o := by
      have := congrArg (·[0]?) hr
      simp only [List.getElem?_drop, Nat.add_zero, List.getElem?_cons_zero, Array.getElem?_toList] at this
      exact this
    have hr' : ops.toList.drop (j + 1) = r := by
      have := congrArg (List.drop 1) hr
      rw [List.drop_drop] at this
      simpa using this
    have hrange : List.range' j (ops.size - j) = j :: List.range' (j + 1) (ops.size - (j + 1)) := by
      rw [show ops.size - j = (ops.size - (j + 1)) + 1 by omega, List.range'_succ]
    have hheavy : heavyAt ops j = heavyOp o := by unfold heavyAt; rw [ho]
    have main : ∀ (v : Value) (h1 : Heap) (rs1 : List Seen), (wantedV ops o s.1 = true → stepV E call o s = some (v, h1)) → (wantedV ops o s.1 = false → v = undef ∧ h1 = s.2) → (∀ x ∈ rs, x ∈ rs1) →
        (heavyOp o = false → wantedV ops o s.1 = true → pureV E (evV s.1) o = none → (readV E (evV s.1) s.2 o).isSome = true → (⟨j, o, s.1, v⟩ : Seen) ∈ rs1) →
        drawV E call ops r (j + 1) (putV s.1 o.dst v, h1) (if heavyOp o then hs ++ [s.2] else hs) rs1 = some (s', hs', rs') →
        ∃ T H V, T j = s.1 ∧ H j = s.2 ∧ Tr E call ops j T H V ∧ T ops.size = s'.1 ∧ H ops.size = s'.2 ∧
          hs' = hs ++ ((List.range' j (ops.size - j)).filter (heavyAt ops)).map H ++ [H ops.size] ∧ (∀ x ∈ rs, x ∈ rs') ∧
          ∀ i o, j ≤ i → Reads E ops T H i o → (⟨i, o, T i, V i⟩ : Seen) ∈ rs' := by
      intro v h1 rs1 hon hoff hrs hseen hd
      obtain ⟨T, H, V, hT, hH, tr, hTn, hHn, hhs, hsub, hread⟩ := ih (j + 1) _ _ _ _ _ _ hr' hlt hd
      let T' : Nat → Tmps := fun i => if i = j then s.1 else T i
      let H' : Nat → Heap := fun i => if i = j then s.2 else H i
      let V' : Nat → Value := fun i => if i = j then v else V i
      have eT : ∀ i, i ≠ j → T' i = T i := fun i h => if_neg h
      have eH : ∀ i, i ≠ j → H' i = H i := fun i h => if_neg h
      have eV : ∀ i, i ≠ j → V' i = V i := fun i h => if_neg h
      have eTj : T' j = s.1 := if_pos rfl
      have eHj : H' j = s.2 := if_pos rfl
      have eVj : V' j = v := if_pos rfl
      refine ⟨T', H', V', eTj, eHj, ⟨?_, ?_, ?_⟩, by rw [eT _ (by omega)]; exact hTn, by rw [eH _ (by omega)]; exact hHn, ?_, fun x hx => hsub x (hrs x hx), ?_⟩
      · intro i x hi hx hw
        by_cases hij : i = j
        · subst hij
          rw [ho] at hx; cases hx
          rw [eTj] at hw
          rw [eTj, eHj, eVj, eH _ (by omega), hH]
          exact hon hw
        · rw [eT i hij] at hw
          rw [eT i hij, eH i hij, eV i hij, eH (i + 1) (by omega)]
          exact tr.run i x (by omega) hx hw
      · intro i x hi hx hw
        by_cases hij : i = j
        · subst hij
          rw [ho] at hx; cases hx
          rw [eTj] at hw
          rw [eVj, eHj, eH _ (by omega), hH]
          exact hoff hw
        · rw [eT i hij] at hw
          rw [eV i hij, eH i hij, eH (i + 1) (by omega)]
          exact tr.off i x (by omega) hx hw
      · intro i x hi hx
        by_cases hij : i = j
        · subst hij
          rw [ho] at hx; cases hx
          rw [eTj, eVj, eT _ (by omega), hT]
        · rw [eT i hij, eV i hij, eT (i + 1) (by omega)]
          exact tr.tm i x (by omega) hx
      · rw [hhs, hrange, List.filter_cons, hheavy, eH _ (by omega)]
        have hmap : ((List.range' (j + 1) (ops.size - (j + 1))).filter (heavyAt ops)).map H' = ((List.range' (j + 1) (ops.size - (j + 1))).filter (heavyAt ops)).map H := by
          apply List.map_congr_left
          intro i hi
          rw [List.mem_filter, List.mem_range'_1] at hi
          exact eH i (by omega)
        cases hh : heavyOp o with
        | true => simp only [if_true, List.map_cons, eHj, hmap, List.append_assoc, List.cons_append, List.nil_append]
        | false => simp only [Bool.false_eq_true, if_false, hmap]
      · intro i x hi hx
        by_cases hij : i = j
        · subst hij
          obtain ⟨h1, h2, h3, h4, h5⟩ := hx
          rw [ho] at h1; cases h1
          rw [eTj] at h3 h4 h5
          rw [eHj] at h5
          rw [eTj, eVj]
          exact hsub _ (hseen h2 h3 h4 h5)
        · rw [eT i hij, eV i hij]
          refine hread i x (by omega) ?_
          obtain ⟨h1, h2, h3, h4, h5⟩ := hx
          rw [eT i hij] at h3 h4 h5
          rw [eH i hij] at h5
          exact ⟨h1, h2, h3, h4, h5⟩
    simp only [drawV] at h
    split at h
    · rename_i hw
      split at h
      · rename_i v h1 hst
        refine main v h1 _ (fun _ => hst) (fun hf => by rw [hw] at hf; cases hf) ?_ ?_ h
        · intro x hx
          split
          · exact List.mem_cons_of_mem _ hx
          · exact hx
        · intro q1 q2 q3 q4
          rw [if_pos (by simp [q1, q3, q4])]
          exact List.mem_cons_self
      · cases h
    · rename_i hw
      have hw' : wantedV ops o s.1 = false := by simpa using hw
      exact main undef s.2 rs (fun hf => absurd hf hw) (fun _ => ⟨rfl, rfl⟩) (fun x hx => hx) (fun _ hf => absurd hf hw) h
end
end Go.Vi
namespace Go.Vi
variable {K : Known}
section
variable {P : Program} {E : Env} {call : CallV} {ops : Array Oper} {T : Nat → Tmps} {H : Nat → Heap} {V : Nat → Value} {D : List Deferred} {rd : Option Nat}
def Al (E : Env) (ops : Array Oper) (T : Nat → Tmps) (H : Nat → Heap) (j : Nat) (b : Blk) : Prop :=
  ∃ o m, ops[j]? = some o ∧ heavyOp o = false ∧ wantedV ops o (T j) = true ∧ pureV E (evV (T j)) o = none ∧ readV E (evV (T j)) (H j) o = none ∧ newV E (evV (T j)) o = some (b, m)
theorem Al.uniq {j : Nat} {b c : Blk} (h : Al E ops T H j b) (k : Al E ops T H j c) : b = c := by
  obtain ⟨o, m, h1, _, _, _, _, h2⟩ := h
  obtain ⟨o', m', k1, _, _, _, _, k2⟩ := k
  rw [h1] at k1; cases k1
  rw [h2] at k2; cases k2; rfl
theorem light_step (tr : Tr E call ops 0 T H V) {j : Nat} {o : Oper} (ho : ops[j]? = some o) (hl : heavyOp o = false) :
    H (j + 1) = H j ∨ ∃ b, Al E ops T H j b ∧ H (j + 1) = (H j).new b := by
  by_cases hw : wantedV ops o (T j) = true
  · have hs := tr.run j o (Nat.zero_le _) ho hw
    unfold stepV at hs
    simp only at hs
    split at hs
    · simp only [Option.some.injEq, Prod.mk.injEq] at hs; exact .inl hs.2.symm
    · rename_i hp
      split at hs
      · simp only [Option.some.injEq, Prod.mk.injEq] at hs; exact .inl hs.2.symm
      · rename_i hr
        split at hs
        · rename_i b m hn
          simp only [Option.some.injEq, Prod.mk.injEq] at hs
          exact .inr ⟨b, ⟨o, m, ho, hl, hw, hp, hr, hn⟩, hs.2.symm⟩
        · rw [heavy_no hl] at hs; cases hs
  · exact .inl (tr.off j o (Nat.zero_le _) ho (by simpa using hw)).2
theorem al_step (tr : Tr E call ops 0 T H V) {j : Nat} {b : Blk} (h : Al E ops T H j b) : H (j + 1) = (H j).new b ∧ ∃ o m, ops[j]? = some o ∧ newV E (evV (T j)) o = some (b, m) ∧ V j = m.val (H j).next := by
  obtain ⟨o, m, ho, hl, hw, hp, hr, hn⟩ := h
  have hs := tr.run j o (Nat.zero_le _) ho hw
  unfold stepV at hs
  simp only [hp, hr, hn, Option.some.injEq, Prod.mk.injEq] at hs
  exact ⟨hs.2.symm, o, m, ho, hn, hs.1.symm⟩
theorem next_step (rk : RowOk K P E) (ck : CallOk K P call) (tr : Tr E call ops 0 T H V) {j : Nat} {o : Oper} (ho : ops[j]? = some o) : (H j).next ≤ (H (j + 1)).next := by
  by_cases hw : wantedV ops o (T j) = true
  · exact stepV_next rk ck (tr.run j o (Nat.zero_le _) ho hw)
  · rw [(tr.off j o (Nat.zero_le _) ho (by simpa using hw)).2]; exact Nat.le_refl _
theorem next_mono (rk : RowOk K P E) (ck : CallOk K P call) (tr : Tr E call ops 0 T H V) {i : Nat} : ∀ (d : Nat), i + d ≤ ops.size → (H i).next ≤ (H (i + d)).next := by
  intro d
  induction d with
  | zero => intro _; exact Nat.le_refl _
  | succ d ih =>
    intro h
    have h1 := ih (by omega)
    have h2 := next_step rk ck tr (j := i + d) (o := ops[i + d]'(by omega)) (Array.getElem?_eq_getElem (by omega))
    exact Nat.le_trans h1 h2
theorem next_le' (rk : RowOk K P E) (ck : CallOk K P call) (tr : Tr E call ops 0 T H V) {i j : Nat} (h : i ≤ j) (hj : j ≤ ops.size) : (H i).next ≤ (H j).next := by
  have := next_mono rk ck tr (i := i) (j - i) (by omega)
  rw [show i + (j - i) = j by omega] at this
  exact this
theorem light_seg (rk : RowOk K P E) (ck : CallOk K P call) (tr : Tr E call ops 0 T H V) {i : Nat} (hf : ∀ b, (H i).next ≤ b → (H i).get b = none) : ∀ (d : Nat), i + d ≤ ops.size → (∀ m, i ≤ m → m < i + d → heavyAt ops m = false) →
    (∀ b, b < (H i).next → (H (i + d)).get b = (H i).get b) ∧ (∀ b, (H (i + d)).next ≤ b → (H (i + d)).get b = none) ∧
    (∀ m b, i ≤ m → m < i + d → Al E ops T H m b → (H (i + d)).get (H m).next = some b) ∧
    (∀ b, (H i).next ≤ b → (H (i + d)).get b ≠ none → ∃ m c, i ≤ m ∧ m < i + d ∧ Al E ops T H m c ∧ b = (H m).next) := by
  intro d
  induction d with
  | zero => intro _ _; exact ⟨fun _ _ => rfl, hf, fun m b h1 h2 => by omega, fun b h1 h2 => absurd (hf b h1) h2⟩
  | succ d ih =>
    intro hd hl
    obtain ⟨q1, q2, q3, q4⟩ := ih (by omega) (fun m h1 h2 => hl m h1 (by omega))
    have hlt : i + d < ops.size := by omega
    have ho : ops[i + d]? = some ops[i + d] := Array.getElem?_eq_getElem hlt
    have hh : heavyOp ops[i + d] = false := by
      have := hl (i + d) (by omega) (by omega)
      unfold heavyAt at this
      rw [ho] at this; exact this
    have hn := next_le' rk ck tr (i := i) (j := i + d) (by omega) (by omega)
    rcases light_step tr ho hh with he | ⟨b, hal, he⟩
    · rw [show i + (d + 1) = i + d + 1 by omega, he]
      refine ⟨q1, q2, fun m c h1 h2 ha => ?_, fun c h1 h2 => ?_⟩
      · by_cases hm : m = i + d
        · subst hm
          have := (al_step tr ha).1
          rw [he] at this
          have := congrArg Heap.next this
          simp [Heap.new] at this
        · exact q3 m c h1 (by omega) ha
      · obtain ⟨m, x, h3, h4, h5, h6⟩ := q4 c h1 h2
        exact ⟨m, x, h3, by omega, h5, h6⟩
    · rw [show i + (d + 1) = i + d + 1 by omega, he]
      refine ⟨fun c hc => by rw [get_new, if_neg (by omega)]; exact q1 c hc, fun c hc => ?_, fun m c h1 h2 ha => ?_, fun c h1 h2 => ?_⟩
      · have hc' : (H (i + d)).next + 1 ≤ c := hc
        rw [get_new, if_neg (by omega)]; exact q2 c (by omega)
      · by_cases hm : m = i + d
        · subst hm
          rw [get_new, if_pos rfl, ha.uniq hal]
        · have h3 := q3 m c h1 (by omega) ha
          have : (H m).next ≠ (H (i + d)).next := by
            intro hx
            rw [hx, q2 _ (Nat.le_refl _)] at h3; cases h3
          rw [get_new, if_neg this]; exact h3
      · rw [get_new] at h2
        by_cases hc : c = (H (i + d)).next
        · exact ⟨i + d, b, by omega, by omega, hal, hc⟩
        · rw [if_neg hc] at h2
          obtain ⟨m, x, h3, h4, h5, h6⟩ := q4 c h1 h2
          exact ⟨m, x, h3, by omega, h5, h6⟩
def SlotIs (ops : Array Oper) (T : Nat → Tmps) (V : Nat → Value) (S : Nat → Prop) (d : Nat) (x : Value) : Prop :=
  (∃ j o, S j ∧ ops[j]? = some o ∧ o.dst = some d ∧ (∀ j' o', S j' → ops[j']? = some o' → o'.dst = some d → j' ≤ j) ∧ x = V j) ∨
  ((∀ j o, S j → ops[j]? = some o → o.dst ≠ some d) ∧ x = (T 0).getD d undef)
theorem SlotIs.uniq {S S' : Nat → Prop} {d : Nat} {x y : Value} (h : SlotIs ops T V S d x) (k : SlotIs ops T V S' d y) (hs : ∀ (j : Nat) o, ops[j]? = some o → o.dst = some d → (S j ↔ S' j)) : x = y := by
  rcases h with ⟨j, o, h1, h2, h3, h4, rfl⟩ | ⟨h1, rfl⟩
  · rcases k with ⟨j', o', k1, k2, k3, k4, rfl⟩ | ⟨k1, rfl⟩
    · have e1 := k4 j o ((hs j o h2 h3).1 h1) h2 h3
      have e2 := h4 j' o' ((hs j' o' k2 k3).2 k1) k2 k3
      rw [show j = j' by omega]
    · exact absurd h3 (k1 j o ((hs j o h2 h3).1 h1) h2)
  · rcases k with ⟨j', o', k1, k2, k3, k4, rfl⟩ | ⟨k1, rfl⟩
    · exact absurd k3 (h1 j' o' ((hs j' o' k2 k3).2 k1) k2)
    · rfl
theorem T_len (tr : Tr E call ops 0 T H V) : ∀ j, j ≤ ops.size → (T j).length = (T 0).length := by
  intro j
  induction j with
  | zero => intro _; rfl
  | succ j ih =>
    intro h
    rw [tr.tm j ops[j] (Nat.zero_le _) (Array.getElem?_eq_getElem (by omega))]
    unfold putV
    split
    · rw [List.length_set]; exact ih (by omega)
    · exact ih (by omega)
theorem putV_getD {t : Tmps} {dd : Option Tmp} {v : Value} {d : Nat} (hd : d < List.length t) : (putV t dd v).getD d undef = if dd = some d then v else t.getD d undef := by
  cases dd with
  | none => simp [putV]
  | some e =>
    simp only [putV, Option.some.injEq]
    rw [List.getD_eq_getElem?_getD, List.getElem?_set]
    by_cases he : e = d
    · subst he
      rw [if_pos rfl, if_pos hd, if_pos rfl]; rfl
    · rw [if_neg he, if_neg he, ← List.getD_eq_getElem?_getD]
theorem slot_put {S : Nat → Prop} {t : Tmps} {j : Nat} {o : Oper} (ho : ops[j]? = some o) (hj : ¬ S j) {d : Nat} (hd : d < List.length t) (hlast : ∀ j' o', S j' → ops[j']? = some o' → o'.dst = o.dst → o.dst = some d → j' ≤ j)
    (h : SlotIs ops T V S d (t.getD d undef)) : SlotIs ops T V (fun i => S i ∨ i = j) d ((putV t o.dst (V j)).getD d undef) := by
  rw [putV_getD hd]
  by_cases he : o.dst = some d
  · rw [if_pos he]
    refine .inl ⟨j, o, .inr rfl, ho, he, fun j' o' h1 h2 h3 => ?_, rfl⟩
    rcases h1 with h1 | h1
    · exact hlast j' o' h1 h2 (by rw [h3, he]) he
    · omega
  · rw [if_neg he]
    rcases h with ⟨i, x, h1, h2, h3, h4, h5⟩ | ⟨h1, h2⟩
    · refine .inl ⟨i, x, .inl h1, h2, h3, fun j' o' k1 k2 k3 => ?_, h5⟩
      rcases k1 with k1 | k1
      · exact h4 j' o' k1 k2 k3
      · subst k1; rw [ho] at k2; cases k2; exact absurd k3 he
    · refine .inr ⟨fun i x k1 k2 k3 => ?_, h2⟩
      rcases k1 with k1 | k1
      · exact h1 i x k1 k2 k3
      · subst k1; rw [ho] at k2; cases k2; exact absurd k3 he
theorem slot_text (tr : Tr E call ops 0 T H V) {d : Nat} (hd : d < (T 0).length) : ∀ j, j ≤ ops.size → SlotIs ops T V (· < j) d ((T j).getD d undef) := by
  intro j
  induction j with
  | zero => intro _; exact .inr ⟨fun j o h => by omega, rfl⟩
  | succ j ih =>
    intro h
    have ho : ops[j]? = some ops[j] := Array.getElem?_eq_getElem (by omega)
    rw [tr.tm j _ (Nat.zero_le _) ho]
    have := slot_put (S := (· < j)) (t := T j) ho (by omega) (d := d) (by rw [T_len tr j (by omega)]; exact hd) (fun j' o' h1 _ _ _ => by omega) (ih (by omega))
    have e : (fun i => i < j ∨ i = j) = (fun i => i < j + 1) := by
      funext i; exact propext ⟨fun h => by omega, fun h => by omega⟩
    rw [e] at this
    exact this
structure PlanIs (ops : Array Oper) (p : Plan) : Prop where
  chain : chainOk (befores ops) (hidx ops) = true
  slots : slotsOk ops (befores ops) = true
  edges : edgesOk ops = true
  guards : guardsOk ops (befores ops) = true
  lo : p.lo = (List.range ops.size).map fun j => ((hidx ops).filter fun c => ((befores ops).getD j 0).testBit c).length
  hi : p.hi = (List.range ops.size).map fun j => ((hidx ops).takeWhile fun c => !((befores ops).getD c 0).testBit j).length
theorem plan_is {p : Plan} (h : mkPlan ops = some p) : PlanIs ops p := by
  unfold mkPlan at h
  simp only at h
  split at h
  · rename_i hc
    cases h
    simp only [Bool.and_eq_true] at hc
    exact ⟨hc.1.1.1, hc.1.1.2, hc.1.2, hc.2, rfl, rfl⟩
  · cases h
theorem slots_of {p : Plan} (pi : PlanIs ops p) {j i : Nat} {o x : Oper} (ho : ops[j]? = some o) (hx : ops[i]? = some x) {d : Tmp} (hd : x.dst = some d) (hm : d ∈ tmpsOf ops o ∨ o.dst = some d) :
    i = j ∨ ((befores ops).getD j 0).testBit i = true ∨ ((befores ops).getD i 0).testBit j = true := by
  have := pi.slots
  unfold slotsOk at this
  simp only at this
  rw [List.all_eq_true] at this
  have mem : ∀ {j : Nat} {o : Oper}, ops[j]? = some o → (o, j) ∈ ops.toList.zipIdx := by
    intro j o h
    rw [List.mem_iff_getElem?]
    exact ⟨j, by rw [List.getElem?_zipIdx, Array.getElem?_toList, h]; simp⟩
  have h1 := this (o, j) (mem ho)
  simp only at h1
  rw [List.all_eq_true] at h1
  have h2 := h1 (x, i) (mem hx)
  simp only [hd, Bool.or_eq_true, beq_iff_eq, Bool.and_eq_true, Bool.not_eq_true', bne_iff_ne, ne_eq] at h2
  rcases h2 with ((h2 | h2) | h2) | h2
  · exact .inl h2
  · rcases hm with hm | hm
    · have := List.contains_iff_mem.2 hm
      rw [this] at h2; simp at h2
    · exact absurd hm h2.2
  · exact .inr (.inl h2)
  · exact .inr (.inr h2)
def Lst (listed : Array Bool) (j : Nat) : Prop := listed[j]? = some true
def DownC (ops : Array Oper) (L : Nat → Prop) : Prop := ∀ j o, L j → ops[j]? = some o → ∀ e ∈ o.after.toList, Region.binds .any e = true → L e.on
theorem down_bit {L : Nat → Prop} (he : edgesOk ops = true) (hd : DownC ops L) : ∀ (j i : Nat), (∀ o, ops[j]? = some o → ∀ e ∈ o.after.toList, Region.binds .any e = true → L e.on) → ((befores ops).getD j 0).testBit i = true → L i := by
  intro j
  induction j using Nat.strongRecOn with
  | _ j ih =>
    intro i hj h
    by_cases hlt : j < ops.size
    · have ho : ops[j]? = some ops[j] := Array.getElem?_eq_getElem hlt
      obtain ⟨e, hm, hb, hl, h⟩ := (befores_bit ops ho he i).1 h
      have hle := hj _ ho e hm hb
      rcases h with rfl | h
      · exact hle
      · exact ih e.on hl i (fun o' ho' e' hm' hb' => hd _ o' hle ho' e' hm' hb') h
    · rw [befores_out ops (by omega)] at h; simp at h
end
end Go.Vi
namespace Go.Vi
variable {K : Known}
section
variable {P : Program} {E : Env} {call : CallV} {ops : Array Oper} {T : Nat → Tmps} {H : Nat → Heap} {V : Nat → Value} {D : List Deferred} {rd : Option Nat}
def nx (ops : Array Oper) (k : Nat) : Nat := ((hidx ops)[k]?).getD ops.size
theorem hidx_mem {m c : Nat} (h : (hidx ops)[m]? = some c) : c < ops.size ∧ heavyAt ops c = true := by
  have := List.mem_of_getElem? h
  unfold hidx at this
  rw [List.mem_filter, List.mem_range] at this
  exact this
theorem hidx_has {j : Nat} (hj : j < ops.size) (h : heavyAt ops j = true) : ∃ m : Nat, (hidx ops)[m]? = some j := by
  have : j ∈ hidx ops := by unfold hidx; rw [List.mem_filter, List.mem_range]; exact ⟨hj, h⟩
  exact List.mem_iff_getElem?.1 this
theorem hidx_lt {m m' c c' : Nat} (h : (hidx ops)[m]? = some c) (h' : (hidx ops)[m']? = some c') (hm : m < m') : c < c' := by
  have hp : (hidx ops).Pairwise (· < ·) := List.Pairwise.filter _ List.pairwise_lt_range
  obtain ⟨h1, rfl⟩ := List.getElem?_eq_some_iff.1 h
  obtain ⟨h2, rfl⟩ := List.getElem?_eq_some_iff.1 h'
  exact List.pairwise_iff_getElem.1 hp m m' h1 h2 hm
theorem hidx_inj {m m' c : Nat} (h : (hidx ops)[m]? = some c) (h' : (hidx ops)[m']? = some c) : m = m' := by
  rcases Nat.lt_trichotomy m m' with h1 | h1 | h1
  · have := hidx_lt h h' h1; omega
  · exact h1
  · have := hidx_lt h' h h1; omega
theorem nx_le (k : Nat) : nx ops k ≤ ops.size := by
  unfold nx
  cases h : (hidx ops)[k]? with
  | none => exact Nat.le_refl _
  | some c => exact Nat.le_of_lt (hidx_mem h).1
theorem nx_some {k c : Nat} (h : (hidx ops)[k]? = some c) : nx ops k = c := by unfold nx; rw [h]; rfl
theorem nx_light {k c m : Nat} (h : (hidx ops)[k]? = some c) (h1 : c < m) (h2 : m < nx ops (k + 1)) : heavyAt ops m = false := by
  cases hh : heavyAt ops m with
  | false => rfl
  | true =>
    exfalso
    obtain ⟨i, hi⟩ := hidx_has (by have := nx_le (ops := ops) (k + 1); omega) hh
    have hki : k < i := by
      rcases Nat.lt_trichotomy k i with h3 | h3 | h3
      · exact h3
      · subst h3; rw [h] at hi; cases hi; omega
      · have := hidx_lt hi h h3; omega
    by_cases h4 : i = k + 1
    · subst h4; rw [nx_some hi] at h2; omega
    · have hlen := (List.getElem?_eq_some_iff.1 hi).1
      have h5 : (hidx ops)[k + 1]? = some ((hidx ops)[k + 1]'(by omega)) := List.getElem?_eq_getElem (by omega)
      have := hidx_lt h5 hi (by omega)
      rw [nx_some h5] at h2; omega
theorem nx0_light {m : Nat} (h2 : m < nx ops 0) : heavyAt ops m = false := by
  cases hh : heavyAt ops m with
  | false => rfl
  | true =>
    exfalso
    obtain ⟨i, hi⟩ := hidx_has (by have := nx_le (ops := ops) 0; omega) hh
    have hlen := (List.getElem?_eq_some_iff.1 hi).1
    have h5 : (hidx ops)[0]? = some ((hidx ops)[0]'(by omega)) := List.getElem?_eq_getElem (by omega)
    rw [nx_some h5] at h2
    by_cases h0 : i = 0
    · subst h0; rw [h5] at hi; simp only [Option.some.injEq] at hi; omega
    · have := hidx_lt h5 hi (by omega); omega
theorem nx_next {k c : Nat} (h : (hidx ops)[k]? = some c) : c < nx ops (k + 1) := by
  unfold nx
  cases h' : (hidx ops)[k + 1]? with
  | none => exact (hidx_mem h).1
  | some c' => exact hidx_lt h h' (by omega)
theorem chain_get {bef : List Nat} : ∀ (l : List Nat), chainOk bef l = true → ∀ (m a b : Nat), l[m]? = some a → l[m + 1]? = some b → (bef.getD b 0).testBit a = true := by
  intro l
  induction l with
  | nil => intro _ m a b h; simp at h
  | cons x l ih =>
    intro hc m a b h h'
    cases l with
    | nil => simp at h'
    | cons y r =>
      simp only [chainOk, Bool.and_eq_true] at hc
      cases m with
      | zero => simp at h h'; subst h; subst h'; exact hc.1
      | succ m => exact ih hc.2 m a b (by simpa using h) (by simpa using h')
theorem good_more {ρ : Map} {h h' : Heap} {w : World} (g : Good K ρ h w) (hold : ∀ b, b < h.next → h'.get b = h.get b) (hf : ∀ b, h'.next ≤ b → h'.get b = none)
    (hrel : ∀ b i o, h.next ≤ b → ρ b = some i → h'.get b = some o → ORel ρ o i w)
    (hinj1 : ∀ b c i j, h.next ≤ b → ρ b = some i → h'.get b ≠ none → ρ c = some j → h.get c ≠ none → i.blk ≠ j.blk)
    (hinj2 : ∀ b c i j, h.next ≤ b → h.next ≤ c → ρ b = some i → ρ c = some j → h'.get b ≠ none → h'.get c ≠ none → i.blk = j.blk → b = c)
    (hro : ∀ b i, h.next ≤ b → ρ b = some i → h'.get b ≠ none → i.ro = false) : Good K ρ h' w := by
  refine ⟨⟨fun b i o hb ho => ?_, fun b c i j hb hc pb pc hz he => ?_, g.lt, hf, fun b i o hb ho hr => ?_⟩, g.known⟩
  · by_cases hlt : b < h.next
    · rw [hold b hlt] at ho; exact g.rel _ _ _ hb ho
    · exact hrel b i o (by omega) hb ho
  · by_cases h1 : b < h.next
    · by_cases h2 : c < h.next
      · rw [hold b h1] at pb; rw [hold c h2] at pc; exact g.inj _ _ _ _ hb hc pb pc hz he
      · rw [hold b h1] at pb; exact absurd he.symm (hinj1 c b j i (by omega) hc pc hb pb)
    · by_cases h2 : c < h.next
      · rw [hold c h2] at pc; exact absurd he (hinj1 b c i j (by omega) hb pb hc pc)
      · exact hinj2 b c i j (by omega) (by omega) hb hc pb pc he
  · by_cases hlt : b < h.next
    · rw [hold b hlt] at ho; exact g.ro _ _ _ hb ho hr
    · rw [hro b i (by omega) hb (by rw [ho]; simp)] at hr; cases hr
theorem good_add {ρ : Map} {h : Heap} {w w' : World} {b : Nat} {i : Info} (g : Good K ρ h w) (hn : ρ b = none) (hb : i.blk = w.heap.size) (hsz : w'.heap.size = w.heap.size + 1)
    (hold : ∀ r, r < w.heap.size → w'.heap[r]? = w.heap[r]?) (ho : ∀ o, h.get b = some o → ORel (upd ρ b i) o i w') (hro : i.ro = false) : Good K (upd ρ b i) h w' := by
  have e := upd_ext (ρ := ρ) i hn
  refine ⟨⟨fun c j o hc hp => ?_, fun c d j k hj hk pc pd hz he => ?_, fun c j hj hz => ?_, g.fresh, fun c j o hc hp hr => ?_⟩, K.keep e (by omega) (fun r hr _ => hold r hr) (fun c j hc hj => ?_) g.known⟩
  · unfold upd at hc
    split at hc
    · rename_i hx; cases hc; rw [hx] at hp; exact ho o hp
    · exact ORel.move e (hold _ (g.ltL hc (by rw [hp]; simp))) (g.rel _ _ _ hc hp)
  · unfold upd at hj hk
    by_cases h1 : c = b
    · rw [if_pos h1] at hj; cases hj
      by_cases h2 : d = b
      · omega
      · rw [if_neg h2] at hk; have := g.ltL hk pd; omega
    · rw [if_neg h1] at hj
      by_cases h2 : d = b
      · rw [if_pos h2] at hk; cases hk; have := g.ltL hj pc; omega
      · rw [if_neg h2] at hk; exact g.inj _ _ _ _ hj hk pc pd hz he
  · unfold upd at hj
    split at hj
    · cases hj; omega
    · have := g.lt _ _ hj hz; omega
  · unfold upd at hc
    split at hc
    · cases hc; rw [hro] at hr; cases hr
    · exact g.ro _ _ _ hc hp hr
  · unfold upd at hj
    split at hj
    · cases hj; exact ⟨hro, .inl (by omega)⟩
    · rw [hc] at hj; cases hj
structure Inv (K : Known) (E : Env) (ops : Array Oper) (T : Nat → Tmps) (H : Nat → Heap) (V : Nat → Value) (D : List Deferred) (ρ0 : Map) (w0 : World) (L : Nat → Prop) (k : Nat) (ρ : Map) (TL : Tmps) (a : Act) (w : World) : Prop where
  kle : k ≤ (hidx ops).length
  cnt : ∀ m c, (hidx ops)[m]? = some c → (L c ↔ m < k)
  tl : List.length TL = (T 0).length
  slot : ∀ d, d < (T 0).length → SlotIs ops T V L d (TL.getD d undef)
  trel : TRel ρ TL a
  d : a.defers = D
  good : Good K ρ (H (nx ops k)) w
  dom : ∀ b, ρ0 b = none → ρ b ≠ none → ∃ j, L j ∧ j < ops.size ∧ (H j).next ≤ b ∧ b < (H (j + 1)).next
  notyet : ∀ j b, Al E ops T H j b → ¬ L j → j < nx ops k → (H (nx ops k)).get (H j).next = some b
  side : ∀ j b, Al E ops T H j b → L j → nx ops k < j → ∃ i, ρ (H j).next = some i ∧ ORel ρ b i w ∧ ∀ b' i', ρ b' = some i' → (H (nx ops k)).get b' ≠ none → i'.blk ≠ i.blk
  sinj : ∀ j1 j2 b1 b2 i1 i2, Al E ops T H j1 b1 → Al E ops T H j2 b2 → L j1 → L j2 → nx ops k < j1 → nx ops k < j2 → ρ (H j1).next = some i1 → ρ (H j2).next = some i2 → i1.blk = i2.blk → j1 = j2
  ext : Ext ρ0 ρ
  vframe : ∀ b, b < (H 0).next → ρ0 b = none → (H (nx ops k)).get b = (H 0).get b
  dead : ∀ b, b < (H 0).next → (H 0).get b = none → (H (nx ops k)).get b = none
  grow : w0.heap.size ≤ w.heap.size
  rframe : ∀ r, r < w0.heap.size → (∀ b i, ρ0 b = some i → (H 0).get b ≠ none → i.ro = false → i.blk ≠ r) → w.heap[r]? = w0.heap[r]?
  fromN : ∀ b i, ρ0 b = none → ρ b = some i → i.ro = false ∧ (w0.heap.size ≤ i.blk ∨ ∃ c j, ρ0 c = some j ∧ (H 0).get c ≠ none ∧ j.ro = false ∧ (H (nx ops k)).get c = none ∧ j.blk = i.blk)
  same : w.os = w0.os ∧ w.output = w0.output
variable {ρ0 : Map} {w0 : World} {L : Nat → Prop} {k : Nat} {ρ : Map} {TL : Tmps} {a : Act} {w : World}
theorem inv_start (rk : RowOk K P E) (ck : CallOk K P call) (tr : Tr E call ops 0 T H V) (g : Good K ρ0 (H 0) w0) (win : Win ρ0 (H 0) (H ops.size)) {a : Act} (ht : TRel ρ0 (T 0) a) (hd : a.defers = D) :
    Inv K E ops T H V D ρ0 w0 (fun _ => False) 0 ρ0 (T 0) a w0 := by
  obtain ⟨q1, q2, q3, q4⟩ := light_seg rk ck tr (i := 0) g.fresh (nx ops 0) (by have := nx_le (ops := ops) 0; omega) (fun m _ h => nx0_light (by omega))
  rw [Nat.zero_add] at q1 q2 q3 q4
  have hle := next_le' rk ck tr (Nat.zero_le _) (nx_le (ops := ops) 0)
  have hle2 := next_le' rk ck tr (nx_le (ops := ops) 0) (Nat.le_refl _)
  have nomap : ∀ b i, (H 0).next ≤ b → ρ0 b = some i → (H (nx ops 0)).get b ≠ none → False := by
    intro b i h1 h2 h3
    have : b < (H (nx ops 0)).next := Nat.lt_of_not_le fun hx => h3 (q2 b hx)
    rw [win b h1 (by omega)] at h2; cases h2
  refine ⟨Nat.zero_le _, fun m c _ => ⟨fun h => h.elim, fun h => by omega⟩, rfl, fun d _ => .inr ⟨fun j o h => h.elim, rfl⟩, ht, hd, ?_, fun b h1 h2 => absurd h1 h2, fun j b hal _ hlt => q3 j b (Nat.zero_le _) hlt hal, fun j b _ h => h.elim,
    fun j1 j2 b1 b2 i1 i2 _ _ h => h.elim, .refl _, fun b h1 _ => q1 b h1, fun b h1 h2 => by rw [q1 b h1]; exact h2, Nat.le_refl _, fun _ _ _ => rfl, fun b i h1 h2 => (by rw [h1] at h2; cases h2), ⟨rfl, rfl⟩⟩
  exact good_more g q1 q2 (fun b i o h1 h2 h3 => (nomap b i h1 h2 (by rw [h3]; simp)).elim) (fun b c i j h1 h2 h3 => (nomap b i h1 h2 h3).elim) (fun b c i j h1 _ h2 _ h3 => (nomap b i h1 h2 h3).elim) (fun b i h1 h2 h3 => (nomap b i h1 h2 h3).elim)
theorem cnt_light {j : Nat} (hl : heavyAt ops j = false) (cnt : ∀ m c, (hidx ops)[m]? = some c → (L c ↔ m < k)) : ∀ m c, (hidx ops)[m]? = some c → ((L c ∨ c = j) ↔ m < k) := by
  intro m c h
  have hc := (hidx_mem h).2
  constructor
  · rintro (h1 | h1)
    · exact (cnt m c h).1 h1
    · subst h1; rw [hl] at hc; cases hc
  · intro h1; exact .inl ((cnt m c h).2 h1)
theorem slot_light (iv : Inv K E ops T H V D ρ0 w0 L k ρ TL a w) {j : Nat} {o : Oper} (ho : ops[j]? = some o) (hj : ¬ L j) (hlast : ∀ j' o', L j' → ops[j']? = some o' → ∀ d, o'.dst = some d → o.dst = some d → j' ≤ j) :
    ∀ d, d < (T 0).length → SlotIs ops T V (fun i => L i ∨ i = j) d ((putV TL o.dst (V j)).getD d undef) := by
  intro d hd
  refine slot_put ho hj (by rw [iv.tl]; exact hd) (fun j' o' h1 h2 h3 h4 => hlast j' o' h1 h2 d (by rw [h3, h4]) h4) (iv.slot d hd)
theorem tl_put (iv : Inv K E ops T H V D ρ0 w0 L k ρ TL a w) (d : Option Tmp) (v : Value) : List.length (putV TL d v) = (T 0).length := by
  unfold putV
  split
  · rw [List.length_set]; exact iv.tl
  · exact iv.tl
theorem inv_value (iv : Inv K E ops T H V D ρ0 w0 L k ρ TL a w) {j : Nat} {o : Oper} (ho : ops[j]? = some o) (hj : ¬ L j) (hl : heavyAt ops j = false) (hna : ∀ b, ¬ Al E ops T H j b)
    (hlast : ∀ j' o', L j' → ops[j']? = some o' → ∀ d, o'.dst = some d → o.dst = some d → j' ≤ j) {v' : Value} (hv : VRel ρ (V j) v') :
    Inv K E ops T H V D ρ0 w0 (fun i => L i ∨ i = j) k ρ (putV TL o.dst (V j)) (a.put o.dst v') w := by
  refine ⟨iv.kle, cnt_light hl iv.cnt, tl_put iv _ _, slot_light iv ho hj hlast, iv.trel.put hv o.dst, by rw [put_defers]; exact iv.d, iv.good, fun b h1 h2 => ?_, fun i b hal hni => ?_, fun i b hal hi => ?_,
    fun j1 j2 b1 b2 i1 i2 h1 h2 h3 h4 => ?_, iv.ext, iv.vframe, iv.dead, iv.grow, iv.rframe, iv.fromN, iv.same⟩
  · obtain ⟨i, h3, h4⟩ := iv.dom b h1 h2
    exact ⟨i, .inl h3, h4⟩
  · exact iv.notyet i b hal (fun h => hni (.inl h))
  · rcases hi with hi | hi
    · exact iv.side i b hal hi
    · subst hi; exact absurd hal (hna b)
  · rcases h3 with h3 | h3
    · rcases h4 with h4 | h4
      · exact iv.sinj j1 j2 b1 b2 i1 i2 h1 h2 h3 h4
      · subst h4; exact absurd h2 (hna b2)
    · subst h3; exact absurd h1 (hna b1)
theorem inv_new (rk : RowOk K P E) (ck : CallOk K P call) (tr : Tr E call ops 0 T H V) (win : Win ρ0 (H 0) (H ops.size)) (iv : Inv K E ops T H V D ρ0 w0 L k ρ TL a w) {j : Nat} {o : Oper} {b : Blk} (ho : ops[j]? = some o) (hj : ¬ L j) (hl : heavyAt ops j = false)
    (hal : Al E ops T H j b) (hjn : j ≠ nx ops k) (hlast : ∀ j' o', L j' → ops[j']? = some o' → ∀ d, o'.dst = some d → o.dst = some d → j' ≤ j) {v' : Value} {w' : World} {i : Info}
    (hi0 : i.blk = w.heap.size ∧ i.ro = false) (hsz2 : w'.heap.size = w.heap.size + 1 ∧ w'.os = w.os ∧ w'.output = w.output) (hold : ∀ r, r < w.heap.size → w'.heap[r]? = w.heap[r]?) (hor : ORel ρ b i w') (hv : ∀ (ρ' : Map), ρ' (H j).next = some i → VRel ρ' (V j) v') :
    Inv K E ops T H V D ρ0 w0 (fun m => L m ∨ m = j) k (upd ρ (H j).next i) (putV TL o.dst (V j)) (a.put o.dst v') w' := by
  obtain ⟨hi, hro⟩ := hi0
  obtain ⟨hsz, hside⟩ := hsz2
  have hjlt : j < ops.size := by
    obtain ⟨h1, _⟩ := Array.getElem?_eq_some_iff.1 ho; exact h1
  have hstep := (al_step tr hal).1
  have hnew : (H j).next < (H (j + 1)).next := by rw [hstep]; exact Nat.lt_succ_self _
  have h0j := next_le' rk ck tr (Nat.zero_le j) (Nat.le_of_lt hjlt)
  have hjn1 := next_le' rk ck tr (show j + 1 ≤ ops.size by omega) (Nat.le_refl _)
  have h0n : ρ0 (H j).next = none := win _ h0j (by omega)
  have apart : ∀ m c, Al E ops T H m c → m ≠ j → (H m).next ≠ (H j).next := by
    intro m c hm hne
    have hms := (al_step tr hm).1
    have hmn : (H m).next < (H (m + 1)).next := by rw [hms]; exact Nat.lt_succ_self _
    obtain ⟨_, _, hmo, _⟩ := hm
    have hmlt : m < ops.size := (Array.getElem?_eq_some_iff.1 hmo).1
    rcases Nat.lt_trichotomy m j with h | h | h
    · have := next_le' rk ck tr (show m + 1 ≤ j by omega) (Nat.le_of_lt hjlt); omega
    · exact absurd h hne
    · have := next_le' rk ck tr (show j + 1 ≤ m by omega) (Nat.le_of_lt hmlt); omega
  have hρn : ρ (H j).next = none := by
    cases hq : ρ (H j).next with
    | none => rfl
    | some x =>
      obtain ⟨m, hm, hmlt, q1, q2⟩ := iv.dom _ h0n (by rw [hq]; simp)
      exfalso
      rcases Nat.lt_trichotomy m j with h | h | h
      · have := next_le' rk ck tr (show m + 1 ≤ j by omega) (Nat.le_of_lt hjlt); omega
      · subst h; exact hj hm
      · have := next_le' rk ck tr (show j + 1 ≤ m by omega) (Nat.le_of_lt hmlt); omega
  have e := upd_ext (ρ := ρ) i hρn
  have hlt : ∀ m b x, Al E ops T H m b → L m → nx ops k < m → ρ (H m).next = some x → x.blk < w.heap.size := fun m b x hm hml hmk hx => by
    obtain ⟨y, h1, h2, _⟩ := iv.side m b hm hml hmk
    rw [hx] at h1; cases h1; exact h2.lt
  refine ⟨iv.kle, cnt_light hl iv.cnt, tl_put iv _ _, slot_light iv ho hj hlast, (iv.trel.ext e).put (hv _ upd_self) o.dst, by rw [put_defers]; exact iv.d, ?_, fun c h1 h2 => ?_, fun m c hm hni hmk => ?_, fun m c hm hml hmk => ?_, ?_,
    iv.ext.trans e, iv.vframe, iv.dead, by have := iv.grow; omega, fun r h1 h2 => ?_, fun c x h1 h2 => ?_, ⟨hside.1.trans iv.same.1, hside.2.trans iv.same.2⟩⟩
  · refine good_add iv.good hρn hi hsz hold (fun x hx => ?_) hro
    by_cases hjk : j < nx ops k
    · rw [iv.notyet j b hal hj hjk] at hx; cases hx
      exact ORel.move e rfl hor
    · have : (H (nx ops k)).next ≤ (H j).next := next_le' rk ck tr (by omega) (Nat.le_of_lt hjlt)
      rw [iv.good.fresh _ this] at hx; cases hx
  · unfold upd at h2
    split at h2
    · rename_i hx; exact ⟨j, .inr rfl, hjlt, by omega, by omega⟩
    · obtain ⟨m, h3, h4⟩ := iv.dom c h1 h2; exact ⟨m, .inl h3, h4⟩
  · exact iv.notyet m c hm (fun h => hni (.inl h)) hmk
  · rcases hml with hml | hml
    · obtain ⟨x, h1, h2, h3⟩ := iv.side m c hm hml hmk
      refine ⟨x, e _ _ h1, ORel.move e (hold _ h2.lt) h2, fun b' i' h4 h5 => ?_⟩
      unfold upd at h4
      split at h4
      · cases h4; have := h2.lt; omega
      · exact h3 b' i' h4 h5
    · subst hml
      have := hm.uniq hal; subst this
      refine ⟨i, upd_self, ORel.move e rfl hor, fun b' i' h4 h5 => ?_⟩
      unfold upd at h4
      split at h4
      · rename_i hx
        subst hx
        have : (H (nx ops k)).next ≤ (H m).next := next_le' rk ck tr (by omega) (Nat.le_of_lt hjlt)
        exact absurd (iv.good.fresh _ this) h5
      · have := iv.good.ltL h4 h5; omega
  · intro j1 j2 b1 b2 i1 i2 h1 h2 h3 h4 h5 h6 h7 h8 h9
    by_cases c1 : j1 = j
    · by_cases c2 : j2 = j
      · omega
      · rcases h4 with h4 | h4
        · subst c1
          have : upd ρ (H j1).next i (H j1).next = some i := upd_self
          rw [this] at h7; cases h7
          unfold upd at h8
          rw [if_neg (apart j2 b2 h2 c2)] at h8
          have := hlt _ _ _ h2 h4 h6 h8; omega
        · exact absurd h4 c2
    · rcases h3 with h3 | h3
      · unfold upd at h7
        rw [if_neg (apart j1 b1 h1 c1)] at h7
        by_cases c2 : j2 = j
        · subst c2
          have : upd ρ (H j2).next i (H j2).next = some i := upd_self
          rw [this] at h8; cases h8
          have := hlt _ _ _ h1 h3 h5 h7; omega
        · rcases h4 with h4 | h4
          · unfold upd at h8
            rw [if_neg (apart j2 b2 h2 c2)] at h8
            exact iv.sinj j1 j2 b1 b2 i1 i2 h1 h2 h3 h4 h5 h6 h7 h8 h9
          · exact absurd h4 c2
      · exact absurd h3 c1
  · rw [hold r (by have := iv.grow; omega)]; exact iv.rframe r h1 h2
  · unfold upd at h2
    split at h2
    · cases h2; exact ⟨hro, .inl (by have := iv.grow; omega)⟩
    · exact iv.fromN c x h1 h2
theorem inv_heavy (rk : RowOk K P E) (ck : CallOk K P call) (tr : Tr E call ops 0 T H V) (win : Win ρ0 (H 0) (H ops.size)) (f0 : ∀ b, (H 0).next ≤ b → (H 0).get b = none) (iv : Inv K E ops T H V D ρ0 w0 L k ρ TL a w) {j : Nat} {o : Oper} (ho : ops[j]? = some o) (hj : ¬ L j)
    (hk : (hidx ops)[k]? = some j) (hlast : ∀ j' o', L j' → ops[j']? = some o' → ∀ d, o'.dst = some d → o.dst = some d → j' ≤ j) {v' : Value} {w' : World} {ρ' : Map}
    (hv : VRel ρ' (V j) v') (g' : Good K ρ' (H (j + 1)) w') (s : Stp ρ (H j) w ρ' (H (j + 1)) w') :
    Inv K E ops T H V D ρ0 w0 (fun m => L m ∨ m = j) (k + 1) ρ' (putV TL o.dst (V j)) (a.put o.dst v') w' := by
  have hnx := nx_some hk
  have good := iv.good
  have dead0 := iv.dead
  have vframe0 := iv.vframe
  have side0 := iv.side
  have sinj0 := iv.sinj
  have notyet0 := iv.notyet
  have fromN0 := iv.fromN
  rw [hnx] at good dead0 vframe0 side0 sinj0 notyet0 fromN0
  have hjlt : j < ops.size := (hidx_mem hk).1
  have hnk := nx_next hk
  have hnkle := nx_le (ops := ops) (k + 1)
  obtain ⟨q1, q2, q3, q4⟩ := light_seg rk ck tr (i := j + 1) g'.fresh (nx ops (k + 1) - (j + 1)) (by omega) (fun m h1 h2 => nx_light hk (by omega) (by omega))
  rw [show j + 1 + (nx ops (k + 1) - (j + 1)) = nx ops (k + 1) by omega] at q1 q2 q3 q4
  have n0j := next_le' rk ck tr (Nat.zero_le j) (Nat.le_of_lt hjlt)
  have njj := s.next
  have njk := next_le' rk ck tr (show j + 1 ≤ nx ops (k + 1) by omega) hnkle
  have nkn := next_le' rk ck tr hnkle (Nat.le_refl _)
  have was0 : ∀ b i, ρ0 b = some i → (H j).get b ≠ none → b < (H 0).next ∧ (H 0).get b ≠ none := by
    intro b i h1 h2
    have h3 : b < (H j).next := Nat.lt_of_not_le fun hx => h2 (good.fresh b hx)
    have h4 : b < (H 0).next := Nat.lt_of_not_le fun hx => by rw [win b hx (by omega)] at h1; cases h1
    exact ⟨h4, fun hx => h2 (dead0 b h4 hx)⟩
  have domlo : ∀ b, ρ0 b = none → ρ b ≠ none → (H 0).next ≤ b := by
    intro b h1 h2
    obtain ⟨m, _, hm, h3, _⟩ := iv.dom b h1 h2
    have := next_le' rk ck tr (Nat.zero_le m) (Nat.le_of_lt hm); omega
  have early : ∀ b i, (H (j + 1)).next ≤ b → b < (H ops.size).next → ρ' b = some i → ∀ m c, Al E ops T H m c → b = (H m).next → L m ∧ ρ b = some i ∧ j < m := by
    intro b i h1 h2 h3 m c hm hb
    have hmn : (H m).next < (H (m + 1)).next := by rw [(al_step tr hm).1]; exact Nat.lt_succ_self _
    have hmo : m < ops.size := by obtain ⟨_, _, hmo, _⟩ := hm; exact (Array.getElem?_eq_some_iff.1 hmo).1
    have h4 : ρ b = some i := by
      cases hq : ρ b with
      | none => have := (s.dom b hq (by rw [h3]; simp)).2; omega
      | some x => have := s.ext _ _ hq; rw [h3] at this; rw [this]
    have h5 : ρ0 b = none := win b (by omega) h2
    obtain ⟨m', hm', hm'lt, h6, h7⟩ := iv.dom b h5 (by rw [h4]; simp)
    have : m' = m := by
      rcases Nat.lt_trichotomy m' m with h | h | h
      · have := next_le' rk ck tr (show m' + 1 ≤ m by omega) (Nat.le_of_lt hmo); omega
      · exact h
      · have := next_le' rk ck tr (show m + 1 ≤ m' by omega) (Nat.le_of_lt hm'lt); omega
    subst this
    refine ⟨hm', h4, ?_⟩
    rcases Nat.lt_trichotomy m' j with h | h | h
    · have := next_le' rk ck tr (show m' + 1 ≤ j by omega) (Nat.le_of_lt hjlt); omega
    · subst h; exact absurd hm' hj
    · exact h
  have apart1 : ∀ m c i, Al E ops T H m c → L m → j < m → ρ (H m).next = some i → w'.heap[i.blk]? = w.heap[i.blk]? ∧ ORel ρ c i w ∧ ∀ b' i', b' < (H (j + 1)).next → ρ' b' = some i' → (H (j + 1)).get b' ≠ none → i'.blk ≠ i.blk := by
    intro m c i hm hml hmj hi
    obtain ⟨x, h1, h2, h3⟩ := side0 m c hm hml hmj
    rw [hi] at h1; cases h1
    refine ⟨s.rframe _ h2.lt (fun b' i' h4 h5 _ => h3 b' i' h4 h5), h2, fun b' i' h4 h5 h6 => ?_⟩
    cases hq : ρ b' with
    | some y =>
      have := s.ext _ _ hq
      rw [h5] at this; cases this
      exact h3 b' i' hq (s.was g'.fresh hq h6).2
    | none =>
      rcases (s.fromN b' i' hq h5).2 with h7 | ⟨c0, j0, h7, h8, _, h9, h10⟩
      · have := h2.lt; omega
      · rw [← h10]; exact h3 c0 j0 h7 h8
  have good' : Good K ρ' (H (nx ops (k + 1))) w' := by
    refine good_more g' q1 q2 (fun b i x h1 h2 h3 => ?_) (fun b c i i2 h1 h2 h3 h4 h5 => ?_) (fun b c i i2 h1 h2 h3 h4 h5 h6 h7 => ?_) (fun b i h1 h2 h3 => ?_)
    · obtain ⟨m, y, h4, h5, h6, h7⟩ := q4 b h1 (by rw [h3]; simp)
      have hb : b < (H (nx ops (k + 1))).next := Nat.lt_of_not_le fun hx => by rw [q2 b hx] at h3; cases h3
      obtain ⟨hml, hmρ, hmj⟩ := early b i h1 (by omega) h2 m y h6 h7
      subst h7
      rw [q3 m y h4 h5 h6] at h3; cases h3
      obtain ⟨h8, h9, _⟩ := apart1 m _ i h6 hml hmj hmρ
      exact ORel.move s.ext h8 h9
    · obtain ⟨m, y, h6, h7, h8, h9⟩ := q4 b h1 h3
      have hb : b < (H (nx ops (k + 1))).next := Nat.lt_of_not_le fun hx => h3 (q2 b hx)
      obtain ⟨hml, hmρ, hmj⟩ := early b i h1 (by omega) h2 m y h8 h9
      subst h9
      have hc : c < (H (j + 1)).next := Nat.lt_of_not_le fun hx => h5 (g'.fresh c hx)
      exact fun he => (apart1 m _ i h8 hml hmj hmρ).2.2 c i2 hc h4 h5 he.symm
    · obtain ⟨m, y, h8, h9, h10, h11⟩ := q4 b h1 h5
      obtain ⟨m2, y2, k8, k9, k10, k11⟩ := q4 c h2 h6
      have hb : b < (H (nx ops (k + 1))).next := Nat.lt_of_not_le fun hx => h5 (q2 b hx)
      have hc : c < (H (nx ops (k + 1))).next := Nat.lt_of_not_le fun hx => h6 (q2 c hx)
      obtain ⟨hml, hmρ, hmj⟩ := early b i h1 (by omega) h3 m y h10 h11
      obtain ⟨kml, kmρ, kmj⟩ := early c i2 h2 (by omega) h4 m2 y2 k10 k11
      subst h11; subst k11
      rw [sinj0 m m2 _ _ i i2 h10 k10 hml kml hmj kmj hmρ kmρ h7]
    · obtain ⟨m, y, h6, h7, h8, h9⟩ := q4 b h1 h3
      have hb : b < (H (nx ops (k + 1))).next := Nat.lt_of_not_le fun hx => h3 (q2 b hx)
      obtain ⟨hml, hmρ, hmj⟩ := early b i h1 (by omega) h2 m y h8 h9
      subst h9
      have hl1 := next_le' rk ck tr (Nat.zero_le (j + 1)) (by omega)
      have hl2 := next_le' rk ck tr hnkle (Nat.le_refl _)
      exact (fromN0 _ i (win _ (by omega) (by omega)) hmρ).1
  have hbig : ∀ m c, Al E ops T H m c → nx ops (k + 1) < m → (H (j + 1)).next ≤ (H m).next ∧ (H m).next < (H ops.size).next := by
    intro m c hm hlt
    have hmo : m < ops.size := by obtain ⟨_, _, hmo, _⟩ := hm; exact (Array.getElem?_eq_some_iff.1 hmo).1
    have hmn : (H m).next < (H (m + 1)).next := by rw [(al_step tr hm).1]; exact Nat.lt_succ_self _
    have h1 := next_le' rk ck tr (show j + 1 ≤ m by omega) (Nat.le_of_lt hmo)
    have h2 := next_le' rk ck tr (show m + 1 ≤ ops.size by omega) (Nat.le_refl _)
    omega
  refine ⟨?_, ?_, tl_put iv _ _, slot_light iv ho hj hlast, (iv.trel.ext s.ext).put hv o.dst, by rw [put_defers]; exact iv.d, good', fun b h1 h2 => ?_, fun m b hm hni hmk => ?_, fun m b hm hml hmk => ?_, ?_, iv.ext.trans s.ext, fun b h1 h2 => ?_,
    fun b h1 h2 => ?_, Nat.le_trans iv.grow s.grow, fun r h1 h2 => ?_, fun b i h1 h2 => ?_, ⟨s.side.1.trans iv.same.1, s.side.2.trans iv.same.2⟩⟩
  · have := (List.getElem?_eq_some_iff.1 hk).1; omega
  · intro m c hc
    constructor
    · rintro (h | h)
      · have := (iv.cnt m c hc).1 h; omega
      · subst h; have := hidx_inj hc hk; omega
    · intro h
      by_cases hmk : m = k
      · subst hmk; rw [hk] at hc; cases hc; exact .inr rfl
      · exact .inl ((iv.cnt m c hc).2 (by omega))
  · cases hq : ρ b with
    | some x => obtain ⟨m, h3, h4⟩ := iv.dom b h1 (by rw [hq]; simp); exact ⟨m, .inl h3, h4⟩
    | none => have := s.dom b hq h2; exact ⟨j, .inr rfl, hjlt, this⟩
  · -- blocks whose operation has not been carried out stay as they were made
    have hmo : m < ops.size := by obtain ⟨_, _, hmo, _⟩ := hm; exact (Array.getElem?_eq_some_iff.1 hmo).1
    have hmn : (H m).next < (H (m + 1)).next := by rw [(al_step tr hm).1]; exact Nat.lt_succ_self _
    by_cases hmj : m < j
    · have h1 := notyet0 m b hm (fun h => hni (.inl h)) hmj
      have h2 := next_le' rk ck tr (show m + 1 ≤ j by omega) (Nat.le_of_lt hjlt)
      have h3 : ρ (H m).next = none := by
        cases hq : ρ (H m).next with
        | none => rfl
        | some x =>
          have h5 := next_le' rk ck tr (Nat.zero_le m) (Nat.le_of_lt hmo)
          have h4 : ρ0 (H m).next = none := win _ h5 (by have := next_le' rk ck tr (show m + 1 ≤ ops.size by omega) (Nat.le_refl _); omega)
          obtain ⟨m', hm', hm'lt, h6, h7⟩ := iv.dom _ h4 (by rw [hq]; simp)
          have : m' = m := by
            rcases Nat.lt_trichotomy m' m with h | h | h
            · have := next_le' rk ck tr (show m' + 1 ≤ m by omega) (Nat.le_of_lt hmo); omega
            · exact h
            · have := next_le' rk ck tr (show m + 1 ≤ m' by omega) (Nat.le_of_lt hm'lt); omega
          subst this
          exact absurd (.inl hm') hni
      rw [q1 _ (by omega), s.vframe _ (by omega) h3]
      exact h1
    · by_cases hmj2 : m = j
      · exact absurd (.inr hmj2) hni
      · exact q3 m b (by omega) hmk hm
  · -- what is still ahead of its place
    obtain ⟨h1, h2⟩ := hbig m b hm hmk
    rcases hml with hml | hml
    · obtain ⟨x, h3, h4, h5⟩ := side0 m b hm hml (by omega)
      obtain ⟨h6, h7, h8⟩ := apart1 m b x hm hml (by omega) h3
      refine ⟨x, s.ext _ _ h3, ORel.move s.ext h6 h7, fun b' i' h9 h10 => ?_⟩
      by_cases hb' : b' < (H (j + 1)).next
      · rw [q1 b' hb'] at h10; exact h8 b' i' hb' h9 h10
      · obtain ⟨m2, y2, k4, k5, k6, k7⟩ := q4 b' (by omega) h10
        have hb2 : b' < (H (nx ops (k + 1))).next := Nat.lt_of_not_le fun hx => h10 (q2 b' hx)
        obtain ⟨kml, kmρ, kmj⟩ := early b' i' (by omega) (by omega) h9 m2 y2 k6 k7
        subst k7
        intro he
        have := sinj0 m2 m y2 b i' x k6 hm kml hml kmj (by omega) kmρ h3 he
        omega
    · omega
  · intro j1 j2 b1 b2 i1 i2 h1 h2 h3 h4 h5 h6 h7 h8 h9
    obtain ⟨e1, e2⟩ := hbig j1 b1 h1 h5
    obtain ⟨e3, e4⟩ := hbig j2 b2 h2 h6
    obtain ⟨r1, r2, r3⟩ := early _ i1 e1 e2 h7 j1 b1 h1 rfl
    obtain ⟨t1, t2, t3⟩ := early _ i2 e3 e4 h8 j2 b2 h2 rfl
    exact sinj0 j1 j2 b1 b2 i1 i2 h1 h2 r1 t1 r3 t3 r2 t2 h9
  · have h3 : ρ b = none := by
      cases hq : ρ b with
      | none => rfl
      | some x => have := domlo b h2 (by rw [hq]; simp); omega
    rw [q1 b (by omega), s.vframe b (by omega) h3]; exact vframe0 b h1 h2
  · rw [q1 b (by omega)]; exact s.dead b (by omega) (dead0 b h1 h2)
  · rw [s.rframe r (by have := iv.grow; omega) (fun b i h3 h4 h40 => ?_)]
    · exact iv.rframe r h1 h2
    · cases hq : ρ0 b with
      | some x =>
        have := iv.ext _ _ hq
        rw [h3] at this; cases this
        exact h2 b i hq (was0 b i hq h4).2 h40
      | none =>
        rcases (fromN0 b i hq h3).2 with h5 | ⟨c, x, h5, h6, h60, h7, h8⟩
        · omega
        · rw [← h8]; exact h2 c x h5 h6 h60
  · cases hq : ρ b with
    | some x =>
      have := s.ext _ _ hq
      rw [h2] at this; cases this
      obtain ⟨h0, h3⟩ := fromN0 b i h1 hq
      refine ⟨h0, ?_⟩
      rcases h3 with h3 | ⟨c, x, h3, h4, h40, h5, h6⟩
      · exact .inl h3
      · have hc : c < (H 0).next := Nat.lt_of_not_le fun hx => h4 (f0 c hx)
        exact .inr ⟨c, x, h3, h4, h40, by rw [q1 c (by omega)]; exact s.dead c (by omega) h5, h6⟩
    | none =>
      obtain ⟨h0, h3⟩ := s.fromN b i hq h2
      refine ⟨h0, ?_⟩
      rcases h3 with h3 | ⟨c, x, h3, h4, h40, h5, h6⟩
      · left; have := iv.grow; omega
      · have hc : c < (H j).next := Nat.lt_of_not_le fun hx => h4 (good.fresh c hx)
        cases hq0 : ρ0 c with
        | some y =>
          have := iv.ext _ _ hq0
          rw [h3] at this; cases this
          exact .inr ⟨c, x, hq0, (was0 c x hq0 h4).2, h40, by rw [q1 c (by omega)]; exact h5, h6⟩
        | none =>
          rcases (fromN0 c x hq0 h3).2 with h7 | ⟨c0, x0, h7, h8, h80, h9, h10⟩
          · left; omega
          · have hc0 : c0 < (H 0).next := Nat.lt_of_not_le fun hx => h8 (f0 c0 hx)
            exact .inr ⟨c0, x0, h7, h8, h80, by rw [q1 c0 (by omega)]; exact s.dead c0 (by omega) h9, by omega⟩
end
end Go.Vi
namespace Go.Vi
variable {K : Known}
section
variable {P : Program} {E : Env} {call : CallV} {ops : Array Oper} {T : Nat → Tmps} {H : Nat → Heap} {V : Nat → Value} {D : List Deferred} {rd : Option Nat}
variable {ρ0 : Map} {w0 : World} {L : Nat → Prop} {k : Nat} {ρ : Map} {TL : Tmps} {a : Act} {w : World}
theorem filter_len_le {p : Nat → Bool} : ∀ (l : List Nat) (k : Nat), (∀ m c, l[m]? = some c → p c = true → m < k) → (l.filter p).length ≤ k := by
  intro l
  induction l with
  | nil => intro k _; exact Nat.zero_le _
  | cons x l ih =>
    intro k h
    rw [List.filter_cons]
    split
    · rename_i hp
      have h0 := h 0 x rfl hp
      have := ih (k - 1) (fun m c hm hc => by have := h (m + 1) c (by simpa using hm) hc; omega)
      simp only [List.length_cons]; omega
    · cases k with
      | zero =>
        have := ih 0 (fun m c hm hc => by have := h (m + 1) c (by simpa using hm) hc; omega)
        omega
      | succ k =>
        have := ih k (fun m c hm hc => by have := h (m + 1) c (by simpa using hm) hc; omega)
        omega
theorem take_len_ge {p : Nat → Bool} : ∀ (l : List Nat) (k : Nat), k ≤ l.length → (∀ m c, m < k → l[m]? = some c → p c = true) → k ≤ (l.takeWhile p).length := by
  intro l
  induction l with
  | nil => intro k hk _; simpa using hk
  | cons x l ih =>
    intro k hk h
    cases k with
    | zero => exact Nat.zero_le _
    | succ k =>
      rw [List.takeWhile_cons, if_pos (h 0 x (by omega) rfl)]
      have := ih k (by simpa using hk) (fun m c hm hc => h (m + 1) c (by omega) (by simpa using hc))
      simp only [List.length_cons]; omega
variable {p : Plan} (pi : PlanIs ops p) (hd : DownC ops L) {i : Nat} {o : Oper} (ho : ops[i]? = some o) (hi : ¬ L i) (hb : ∀ e ∈ o.after.toList, Region.binds .any e = true → L e.on)
include pi hd ho hi hb
theorem ready_bit {j : Nat} (h : ((befores ops).getD i 0).testBit j = true) : L j := by
  have _ := hi
  exact down_bit pi.edges hd i j (fun o' ho' => by rw [ho] at ho'; cases ho'; exact hb) h
theorem ready_not {j : Nat} (hj : L j) : ((befores ops).getD j 0).testBit i = false := by
  have _ := ho
  have _ := hb
  cases h : ((befores ops).getD j 0).testBit i with
  | false => rfl
  | true => exact absurd (down_bit pi.edges hd j i (fun o' ho' => hd j o' hj ho') h) hi
theorem ready_last : ∀ j' o', L j' → ops[j']? = some o' → ∀ d, o'.dst = some d → o.dst = some d → j' ≤ i := by
  intro j' o' h1 h2 d h3 h4
  rcases slots_of pi ho h2 h3 (.inr h4) with h | h | h
  · omega
  · have := befores_lt ops pi.edges i j' h; omega
  · rw [ready_not pi hd ho hi hb h1] at h; cases h
theorem ready_tmp (tr : Tr E call ops 0 T H V) (iv : Inv K E ops T H V D ρ0 w0 L k ρ TL a w) {d : Tmp} (hm : d ∈ tmpsOf ops o) : TL.getD d undef = (T i).getD d undef := by
  obtain ⟨d', hdd⟩ : ∃ d' : Nat, d' = d := ⟨d, rfl⟩
  subst hdd
  have hlt : i < ops.size := (Array.getElem?_eq_some_iff.1 ho).1
  have hl1 := iv.tl
  have hl2 := T_len tr i (Nat.le_of_lt hlt)
  by_cases hd0 : d' < (T 0).length
  · refine (iv.slot d' hd0).uniq (slot_text tr hd0 i (Nat.le_of_lt hlt)) fun j x hx hxd => ?_
    rcases slots_of pi ho hx hxd (.inl hm) with h | h | h
    · subst h; exact ⟨fun h => absurd h hi, fun h => by omega⟩
    · exact ⟨fun _ => befores_lt ops pi.edges i j h, fun _ => ready_bit pi hd ho hi hb h⟩
    · refine ⟨fun h' => ?_, fun h' => ?_⟩
      · rw [ready_not pi hd ho hi hb h'] at h; cases h
      · have := befores_lt ops pi.edges j i h; omega
  · rw [List.getD_eq_getElem?_getD, List.getD_eq_getElem?_getD, List.getElem?_eq_none (by omega), List.getElem?_eq_none (by omega)]
theorem ready_ev (tr : Tr E call ops 0 T H V) (iv : Inv K E ops T H V D ρ0 w0 L k ρ TL a w) : ∀ x ∈ o.op.operands, evV TL x = evV (T i) x := by
  intro x hx
  cases x with
  | tmp d =>
    refine ready_tmp pi hd ho hi hb tr iv (d := d) ?_
    unfold tmpsOf
    rw [List.mem_append]
    left
    rw [List.mem_filterMap]
    exact ⟨.tmp d, by simpa using hx, rfl⟩
  | const v => rfl
  | global g => rfl
  | func f => rfl
theorem ready_wanted (tr : Tr E call ops 0 T H V) (iv : Inv K E ops T H V D ρ0 w0 L k ρ TL a w) : wantedV ops o TL = wantedV ops o (T i) := by
  have hlt : i < ops.size := (Array.getElem?_eq_some_iff.1 ho).1
  have hl : TL.length = (T i).length := by rw [iv.tl, T_len tr i (Nat.le_of_lt hlt)]
  have key : ∀ (g : Nat) (want : Bool), o.guard = some (g, want) → ((ops[g]?).bind (·.dst)).bind (TL[·]?) = ((ops[g]?).bind (·.dst)).bind ((T i)[·]?) := by
    intro g want hg
    cases hq : (ops[g]?).bind (·.dst) with
    | none => rfl
    | some d =>
      have hm : d ∈ tmpsOf ops o := by
        unfold tmpsOf
        rw [List.mem_append]
        right
        rw [hg]
        simp only [hq]
        exact List.mem_singleton.2 rfl
      have h1 := ready_tmp pi hd ho hi hb tr iv hm
      obtain ⟨d', hdd⟩ : ∃ d' : Nat, d' = d := ⟨d, rfl⟩
      subst hdd
      show TL[d']? = (T i)[d']?
      by_cases h : d' < TL.length
      · have h' : d' < (T i).length := by omega
        rw [List.getD_eq_getElem?_getD, List.getD_eq_getElem?_getD, List.getElem?_eq_getElem h, List.getElem?_eq_getElem h'] at h1
        rw [List.getElem?_eq_getElem h, List.getElem?_eq_getElem h']
        simpa using h1
      · rw [List.getElem?_eq_none (by omega), List.getElem?_eq_none (by omega)]
  unfold wantedV
  cases hg : o.guard with
  | none => rfl
  | some q =>
    obtain ⟨g, want⟩ := q
    simp only [key g want hg]
theorem ready_lo (iv : Inv K E ops T H V D ρ0 w0 L k ρ TL a w) : p.lo.getD i 0 ≤ k := by
  have hlt : i < ops.size := (Array.getElem?_eq_some_iff.1 ho).1
  have e : p.lo.getD i 0 = ((hidx ops).filter fun c => ((befores ops).getD i 0).testBit c).length := by
    rw [pi.lo, List.getD_eq_getElem?_getD, List.getElem?_map, List.getElem?_range hlt]; rfl
  rw [e]
  refine filter_len_le _ _ fun m c hm hc => ?_
  exact (iv.cnt m c hm).1 (ready_bit pi hd ho hi hb hc)
theorem ready_hi (iv : Inv K E ops T H V D ρ0 w0 L k ρ TL a w) : k ≤ p.hi.getD i 0 := by
  have hlt : i < ops.size := (Array.getElem?_eq_some_iff.1 ho).1
  have e : p.hi.getD i 0 = ((hidx ops).takeWhile fun c => !((befores ops).getD c 0).testBit i).length := by
    rw [pi.hi, List.getD_eq_getElem?_getD, List.getElem?_map, List.getElem?_range hlt]; rfl
  rw [e]
  refine take_len_ge _ _ iv.kle fun m c hm hc => ?_
  rw [ready_not pi hd ho hi hb ((iv.cnt m c hc).2 hm)]; rfl
theorem ready_heavy (iv : Inv K E ops T H V D ρ0 w0 L k ρ TL a w) (hh : heavyOp o = true) : (hidx ops)[k]? = some i := by
  have hlt : i < ops.size := (Array.getElem?_eq_some_iff.1 ho).1
  obtain ⟨m, hm⟩ := hidx_has hlt (by unfold heavyAt; rw [ho]; exact hh)
  have h1 : ¬ m < k := fun h => hi ((iv.cnt m i hm).2 h)
  by_cases h2 : m = k
  · subst h2; exact hm
  · exfalso
    have hml := (List.getElem?_eq_some_iff.1 hm).1
    have h3 : (hidx ops)[m - 1]? = some ((hidx ops)[m - 1]'(by omega)) := List.getElem?_eq_getElem (by omega)
    have h4 := chain_get _ pi.chain (m - 1) _ i h3 (by rw [show m - 1 + 1 = m by omega]; exact hm)
    have := (iv.cnt (m - 1) _ h3).1 (ready_bit pi hd ho hi hb h4)
    omega
theorem ready_light (iv : Inv K E ops T H V D ρ0 w0 L k ρ TL a w) (hh : heavyOp o = false) : i ≠ nx ops k := by
  have _ := pi
  have _ := hd
  have _ := hi
  have _ := hb
  have _ := iv
  intro h
  have hlt : i < ops.size := (Array.getElem?_eq_some_iff.1 ho).1
  unfold nx at h
  cases hq : (hidx ops)[k]? with
  | none => rw [hq] at h; simp at h; omega
  | some c =>
    rw [hq] at h
    simp at h
    subst h
    have := (hidx_mem hq).2
    unfold heavyAt at this
    rw [ho] at this
    simp only [hh] at this
    cases this
omit pi hd hb in
theorem ready_win (rk : RowOk K P E) (ck : CallOk K P call) (tr : Tr E call ops 0 T H V) (win : Win ρ0 (H 0) (H ops.size)) (iv : Inv K E ops T H V D ρ0 w0 L k ρ TL a w) : Win ρ (H i) (H (i + 1)) := by
  intro b h1 h2
  have hlt : i < ops.size := (Array.getElem?_eq_some_iff.1 ho).1
  have n1 := next_le' rk ck tr (Nat.zero_le i) (Nat.le_of_lt hlt)
  have n2 := next_le' rk ck tr (show i + 1 ≤ ops.size by omega) (Nat.le_refl _)
  cases hq : ρ b with
  | none => rfl
  | some x =>
    obtain ⟨j, hj, hjlt, h3, h4⟩ := iv.dom b (win b (by omega) (by omega)) (by rw [hq]; simp)
    exfalso
    rcases Nat.lt_trichotomy j i with h | h | h
    · have := next_le' rk ck tr (show j + 1 ≤ i by omega) (Nat.le_of_lt hlt); omega
    · subst h; exact hi hj
    · have := next_le' rk ck tr (show i + 1 ≤ j by omega) (Nat.le_of_lt hjlt); omega
end
end Go.Vi
namespace Go.Vi
variable {K : Known}
section
variable {P : Program} {E : Env} {call : CallV} {ops : Array Oper} {T : Nat → Tmps} {H : Nat → Heap} {V : Nat → Value} {D : List Deferred} {rd : Option Nat}
theorem drawV_next (rk : RowOk K P E) (ck : CallOk K P call) {ops : Array Oper} : ∀ (r : List Oper) (j : Nat) (s : St) (hs : List Heap) (rs : List Seen) (s' : St) (hs' : List Heap) (rs' : List Seen), drawV E call ops r j s hs rs = some (s', hs', rs') → s.2.next ≤ s'.2.next := by
  intro r
  induction r with
  | nil => intro j s hs rs s' hs' rs' h; simp [drawV] at h; rw [h.1]; exact Nat.le_refl _
  | cons o r ih =>
    intro j s hs rs s' hs' rs' h
    simp only [drawV] at h
    split at h
    · split at h
      · rename_i v h1 hst
        have := stepV_next rk ck hst
        have := ih _ _ _ _ _ _ _ h
        simp only at this; omega
      · cases h
    · have := ih _ _ _ _ _ _ _ h; exact this
theorem mem_ready {listed : Array Bool} {i : Nat} (h : i ∈ Region.ready .any ops listed) (hsz : listed.size = ops.size) :
    i < ops.size ∧ listed[i]? = some false ∧ ∃ o, ops[i]? = some o ∧ ∀ e ∈ o.after.toList, Region.binds .any e = true → Lst listed e.on := by
  unfold Region.ready at h
  rw [List.mem_filter, List.mem_range] at h
  obtain ⟨h1, h2⟩ := h
  rw [Bool.and_eq_true] at h2
  have ho : ops[i]? = some ops[i] := Array.getElem?_eq_getElem h1
  refine ⟨h1, ?_, ops[i], ho, fun e he hb => ?_⟩
  · have h3 := h2.1
    rw [Array.getD_eq_getD_getElem?] at h3
    have : listed[i]? = some (listed[i]'(by omega)) := Array.getElem?_eq_getElem (by omega)
    rw [this] at h3 ⊢
    simpa using h3
  · have h3 := h2.2
    rw [ho] at h3
    simp only [Option.map_some, Option.getD_some] at h3
    have := Array.all_eq_true_iff_forall_mem.1 h3 e (by simpa using he)
    simp only [hb, Bool.not_true, Bool.false_or] at this
    unfold Lst
    rw [Array.getD_eq_getD_getElem?] at this
    cases hq : listed[e.on]? with
    | none => rw [hq] at this; simp at this
    | some b => rw [hq] at this; simp at this; rw [this]
theorem ready_of {listed : Array Bool} {i : Nat} {o : Oper} (ho : ops[i]? = some o) (hf : listed[i]? = some false) (he : ∀ e ∈ o.after.toList, Region.binds .any e = true → Lst listed e.on) : i ∈ Region.ready .any ops listed := by
  unfold Region.ready
  have hlt : i < ops.size := (Array.getElem?_eq_some_iff.1 ho).1
  rw [List.mem_filter, List.mem_range]
  refine ⟨hlt, ?_⟩
  rw [Bool.and_eq_true]
  refine ⟨by rw [Array.getD_eq_getD_getElem?, hf]; rfl, ?_⟩
  rw [ho]
  simp only [Option.map_some, Option.getD_some]
  rw [Array.all_eq_true_iff_forall_mem]
  intro e hm
  by_cases hb : Region.binds .any e = true
  · have := he e (by simpa using hm) hb
    unfold Lst at this
    rw [hb, Array.getD_eq_getD_getElem?, this]; rfl
  · simp [Bool.not_eq_true] at hb; simp [hb]
theorem all_done {listed : Array Bool} (hsz : listed.size = ops.size) (he : edgesOk ops = true) (h : Region.ready .any ops listed = []) : ∀ j, j < ops.size → Lst listed j := by
  intro j
  induction j using Nat.strongRecOn with
  | _ j ih =>
    intro hj
    have ho : ops[j]? = some ops[j] := Array.getElem?_eq_getElem hj
    have hl : listed[j]? = some (listed[j]'(by omega)) := Array.getElem?_eq_getElem (by omega)
    cases hb : listed[j]'(by omega) with
    | true => unfold Lst; rw [hl, hb]
    | false =>
      exfalso
      have : j ∈ Region.ready .any ops listed := by
        refine ready_of ho (by rw [hl, hb]) fun e hm hbi => ?_
        have hlt : e.on < j := by
          unfold edgesOk at he
          rw [List.all_eq_true] at he
          have := he (ops[j], j) (by
            rw [List.mem_iff_getElem?]
            exact ⟨j, by rw [List.getElem?_zipIdx, Array.getElem?_toList, ho]; simp⟩)
          simp only at this
          have := Array.all_eq_true_iff_forall_mem.1 this e (by simpa using hm)
          simpa [hbi] using this
        exact ih e.on hlt (by omega)
      rw [h] at this; cases this
theorem draw_sound (ko : TysOk P E) (mo : MethOk P E) (rk : RowOk K P E) (ck : CallOk K P call) {p : Plan} (hp : mkPlan ops = some p) (hok : ops.toList.all opOk = true) {s s' : St} {hs : List Heap} {rs : List Seen}
    (hd : drawV E call ops ops.toList 0 s [] [] = some (s', hs, rs)) (hrs : rs.all (seenOk E p hs) = true) {ρ : Map} {a : Act} {w : World} (sr : SRel K D ρ s a w) (win : Win ρ s.2 s'.2)
    {Q : Exit → Act → World → Prop} (kk : ∀ ρ' a' w', SRel K D ρ' s' a' w' → Stp ρ s.2 w ρ' s'.2 w' → Q .normal a' w') :
    wpAnyIn (W rd) 0 P .any ops Q ops.size (Array.replicate ops.size false) a w := by
  obtain ⟨T, H, V, hT0, hH0, tr, hTn, hHn, hhs, _, hread⟩ := drawV_trace ops.toList 0 s [] [] s' hs rs (by simp) (Nat.zero_le _) hd
  have pi := plan_is hp
  have hhs' : hs = (hidx ops).map H ++ [H ops.size] := by
    rw [hhs]; simp only [List.nil_append, Nat.sub_zero]
    unfold hidx; rw [List.range_eq_range']
  have hstage : ∀ k, k ≤ (hidx ops).length → hs[k]? = some (H (nx ops k)) := by
    intro k hk
    rw [hhs']
    by_cases hlt : k < (hidx ops).length
    · have h1 : (hidx ops)[k]? = some (hidx ops)[k] := List.getElem?_eq_getElem hlt
      rw [List.getElem?_append_left (by simpa using hlt), List.getElem?_map, h1, nx_some h1]; rfl
    · have : k = (hidx ops).length := by omega
      subst this
      rw [List.getElem?_append_right (by simp)]
      simp [nx]
  have g0 : Good K ρ (H 0) w := by rw [hH0]; exact sr.g
  have win0 : Win ρ (H 0) (H ops.size) := by rw [hH0, hHn]; exact win
  have start : Inv K E ops T H V D ρ w (fun _ => False) 0 ρ (T 0) a w := inv_start rk ck tr g0 win0 (by rw [hT0]; exact sr.t) sr.d
  have finish : ∀ (L : Nat → Prop) k ρ1 TL a1 w1, Inv K E ops T H V D ρ w L k ρ1 TL a1 w1 → (∀ j, j < ops.size → L j) → Q .normal a1 w1 := by
    intro L k ρ1 TL a1 w1 iv hall
    have hk : k = (hidx ops).length := by
      rcases Nat.lt_or_ge k (hidx ops).length with h | h
      · have h1 : (hidx ops)[k]? = some (hidx ops)[k] := List.getElem?_eq_getElem h
        have := (iv.cnt k _ h1).1 (hall _ (hidx_mem h1).1); omega
      · have := iv.kle; omega
    have hnx : nx ops k = ops.size := by subst hk; simp [nx]
    have good := iv.good
    have vf := iv.vframe
    have de := iv.dead
    have fr := iv.fromN
    rw [hnx] at good vf de fr
    have htl : TL = T ops.size := by
      apply List.ext_getElem
      · rw [iv.tl, T_len tr _ (Nat.le_refl _)]
      · intro d h1 h2
        have hd0 : d < (T 0).length := by rw [← iv.tl]; exact h1
        have e := (iv.slot d hd0).uniq (slot_text tr hd0 ops.size (Nat.le_refl _)) (fun j o ho _ => by
          have : j < ops.size := (Array.getElem?_eq_some_iff.1 ho).1
          exact ⟨fun _ => this, fun _ => hall j this⟩)
        rw [List.getD_eq_getElem?_getD, List.getElem?_eq_getElem h1, List.getD_eq_getElem?_getD, List.getElem?_eq_getElem h2] at e
        simpa using e
    have es1 : s'.1 = T ops.size := hTn.symm
    have es2 : s'.2 = H ops.size := hHn.symm
    refine kk ρ1 a1 w1 ⟨by rw [es1, ← htl]; exact iv.trel, iv.d, by rw [es2]; exact good⟩ ?_
    rw [es2, ← hH0]
    have hle := next_le' rk ck tr (Nat.zero_le ops.size) (Nat.le_refl _)
    refine ⟨iv.ext, fun b h1 h2 => ?_, win0, hle, vf, de, iv.grow, iv.rframe, fr, iv.same⟩
    obtain ⟨j, _, hj, h3, h4⟩ := iv.dom b h1 h2
    have := next_le' rk ck tr (Nat.zero_le j) (Nat.le_of_lt hj)
    have := next_le' rk ck tr (show j + 1 ≤ ops.size by omega) (Nat.le_refl _)
    omega
  have go : ∀ (fuel : Nat) (listed : Array Bool), listed.size = ops.size → listed.toList.count false ≤ fuel →
      ∀ (k : Nat) (ρ1 : Map) (TL : Tmps) (a1 : Act) (w1 : World), DownC ops (Lst listed) → Inv K E ops T H V D ρ w (Lst listed) k ρ1 TL a1 w1 → wpAnyIn (W rd) 0 P .any ops Q fuel listed a1 w1 := by
    intro fuel
    induction fuel with
    | zero =>
      intro listed hsz hcnt k ρ1 TL a1 w1 dc iv
      have hall : ∀ j, j < ops.size → Lst listed j := by
        intro j hj
        have h1 : listed[j]? = some (listed[j]'(by omega)) := Array.getElem?_eq_getElem (by omega)
        unfold Lst
        rw [h1]
        cases hq : listed[j]'(by omega) with
        | true => rfl
        | false =>
          exfalso
          have h2 : false ∈ listed.toList := by rw [← hq]; simp
          have := List.count_pos_iff.2 h2
          omega
      refine ⟨?_, finish _ _ _ _ _ _ iv hall⟩
      cases hr : Region.ready .any ops listed with
      | nil => rfl
      | cons x l =>
        exfalso
        obtain ⟨h1, h2, _⟩ := mem_ready (ops := ops) (listed := listed) (i := x) (by rw [hr]; exact List.mem_cons_self) hsz
        have := hall x h1
        unfold Lst at this
        rw [h2] at this; cases this
    | succ fuel ih =>
      intro listed hsz hcnt k ρ1 TL a1 w1 dc iv
      refine ⟨fun hr => finish _ _ _ _ _ _ iv (all_done hsz pi.edges hr), fun i hir => ?_⟩
      obtain ⟨hlt, hf, o, ho, hb⟩ := mem_ready hir hsz
      have hni : ¬ Lst listed i := by unfold Lst; rw [hf]; simp
      have hlast := ready_last pi dc ho hni hb
      have hev := ready_ev pi dc ho hni hb tr iv
      have hev2 : ∀ x ∈ o.op.operands, evV (T i) x = evV TL x := fun x hx => (hev x hx).symm
      have hwt := ready_wanted pi dc ho hni hb tr iv
      have okk : opOk o = true := by
        rw [List.all_eq_true] at hok
        exact hok o (by rw [List.mem_iff_getElem?]; exact ⟨i, by rw [Array.getElem?_toList]; exact ho⟩)
      have hsz' : (listed.setIfInBounds i true).size = ops.size := by rw [Array.size_setIfInBounds]; exact hsz
      have hL' : Lst (listed.setIfInBounds i true) = fun m => Lst listed m ∨ m = i := by
        funext m
        unfold Lst
        rw [Array.getElem?_setIfInBounds]
        by_cases hm : i = m
        · subst hm; rw [if_pos rfl, if_pos (by omega)]; simp
        · rw [if_neg hm]
          exact propext ⟨.inl, fun h => h.resolve_right (Ne.symm hm)⟩
      have hcnt' : (listed.setIfInBounds i true).toList.count false ≤ fuel := by
        have h1 : i < listed.toList.length := by simpa [hsz] using hlt
        have h2 : listed.toList[i] = false := by
          have := (Array.getElem?_eq_some_iff.1 hf).2
          simpa using this
        rw [Array.toList_setIfInBounds, List.count_set h1, h2]
        have h3 : false ∈ listed.toList := by rw [← h2]; exact List.getElem_mem h1
        have h4 := List.count_pos_iff.2 h3
        generalize List.count false listed.toList = c at hcnt h4 ⊢
        have e1 : (if (false == false) = true then 1 else 0) = 1 := rfl
        have e2 : (if (true == false) = true then 1 else 0) = 0 := rfl
        rw [e1, e2]; omega
      have dc' : DownC ops (fun m => Lst listed m ∨ m = i) := by
        intro j x hj hx e he hbi
        rcases hj with hj | hj
        · exact .inl (dc j x hj hx e he hbi)
        · subst hj; rw [ho] at hx; cases hx; exact .inl (hb e he hbi)
      have next : ∀ k' ρ' TL' a' w', Inv K E ops T H V D ρ w (fun m => Lst listed m ∨ m = i) k' ρ' TL' a' w' → wpAnyIn (W rd) 0 P .any ops Q fuel (listed.setIfInBounds i true) a' w' := by
        intro k' ρ' TL' a' w' iv'
        exact ih _ hsz' hcnt' k' ρ' TL' a' w' (by rw [hL']; exact dc') (by rw [hL']; exact iv')
      have he := iv.trel.ev
      have rw1 := ready_win ho hni rk ck tr win0 iv
      unfold wpOpIn
      simp only [ho]
      rw [← wanted_eq iv.trel, hwt]
      by_cases hw : wantedV ops o (T i) = true
      · rw [if_pos hw]
        refine ⟨fun _ _ => trivial, ?_⟩
        have hs := tr.run i o (Nat.zero_le _) ho hw
        rw [Oper.semAt_eq _ _ _ (opOk_defer okk), exec_eq okk]
        cases hh : heavyOp o with
        | true =>
          have hki := ready_heavy pi dc ho hni hb iv hh
          have hg := iv.good
          rw [nx_some hki] at hg
          obtain ⟨l1, l2, l3⟩ := light_no (E := E) (ev := evV (T i)) (hp := H i) hh
          unfold stepV at hs
          simp only [l1, l2, l3] at hs
          rw [heavy_congr hev2] at hs
          refine heavy_sound ko mo rk ck hg rw1 he hs (opOk_sel okk) fun w' ρ' v' rv g' st => ?_
          exact next _ _ _ _ _ (inv_heavy rk ck tr win0 g0.fresh iv ho hni hki hlast rv g' st)
        | false =>
          have hlight : heavyAt ops i = false := by unfold heavyAt; rw [ho]; exact hh
          unfold stepV at hs
          simp only at hs
          split at hs
          · rename_i v0 hp
            simp only [Option.some.injEq, Prod.mk.injEq] at hs
            rw [pure_congr hev2] at hp
            obtain ⟨v', rv, run⟩ := pure_sound (P := P) ko he hp
            rw [run]
            refine next _ _ _ _ _ (inv_value iv ho hni hlight (fun b hal => ?_) hlast (by rw [← hs.1]; exact rv))
            obtain ⟨o', _, h1, _, _, h2, _⟩ := hal
            rw [ho] at h1; cases h1
            rw [pure_congr hev2, hp] at h2; cases h2
          · rename_i hp
            split at hs
            · rename_i v0 hr
              simp only [Option.some.injEq, Prod.mk.injEq] at hs
              have hseen := hread i o (Nat.zero_le _) ⟨ho, hh, hw, hp, by rw [hr]; rfl⟩
              have hso := (List.all_eq_true.1 hrs) _ hseen
              unfold seenOk at hso
              simp only at hso
              have hlo := ready_lo pi dc ho hni hb iv
              have hhi := ready_hi pi dc ho hni hb iv
              have h1 := (List.all_eq_true.1 hso) (k - p.lo.getD i 0) (by rw [List.mem_range]; omega)
              rw [show p.lo.getD i 0 + (k - p.lo.getD i 0) = k by omega, hstage k iv.kle] at h1
              simp only at h1
              split at h1
              · rename_i v1 hr1
                have hv1 := veq_eq _ _ _ h1
                rw [read_congr hev2] at hr1
                obtain ⟨v', rv, run⟩ := read_sound (P := P) ko iv.good he hr1
                rw [run]
                refine next _ _ _ _ _ (inv_value iv ho hni hlight (fun b hal => ?_) hlast (by rw [← hv1]; exact rv))
                obtain ⟨o', _, h1, _, _, _, h2, _⟩ := hal
                rw [ho] at h1; cases h1
                rw [hr] at h2; cases h2
              · cases h1
            · rename_i hr
              split at hs
              · rename_i b m hn
                simp only [Option.some.injEq, Prod.mk.injEq] at hs
                have hal : Al E ops T H i b := ⟨o, m, ho, hh, hw, hp, hr, hn⟩
                rw [new_congr hev2] at hn
                obtain ⟨w', v', x, run, hi, hsz1, hold, hor, hv⟩ := (new_sound (P := P) ko he hn w1).out
                rw [run]
                refine next _ _ _ _ _ (inv_new rk ck tr win0 iv ho hni hlight hal (ready_light pi dc ho hni hb iv hh) hlast hi hsz1 hold hor fun ρ' hρ' => ?_)
                rw [← hs.1]
                exact hv ρ' _ hρ'
              · rw [heavy_no hh] at hs; cases hs
      · rw [if_neg hw]
        refine ⟨fun _ _ => trivial, ?_⟩
        obtain ⟨hv, hH⟩ := tr.off i o (Nat.zero_le _) ho (by simpa using hw)
        cases hh : heavyOp o with
        | true =>
          have hki := ready_heavy pi dc ho hni hb iv hh
          have hg := iv.good
          rw [nx_some hki] at hg
          refine next _ _ _ _ _ (inv_heavy (ρ' := ρ1) (w' := w1) rk ck tr win0 g0.fresh iv ho hni hki hlast (by rw [hv]; exact undef_rel) (by rw [hH]; exact hg) (by rw [hH]; exact .refl _ _ _))
        | false =>
          have hlight : heavyAt ops i = false := by unfold heavyAt; rw [ho]; exact hh
          refine next _ _ _ _ _ (inv_value iv ho hni hlight (fun b hal => ?_) hlast (by rw [hv]; exact undef_rel))
          obtain ⟨o', _, h1, _, h2, _⟩ := hal
          rw [ho] at h1; cases h1
          exact hw h2
  refine go ops.size (Array.replicate ops.size false) (by simp) (by rw [Array.toList_replicate]; exact Nat.le_trans List.count_le_length (by simp)) 0 ρ (T 0) a w (fun j o hj => ?_) ?_
  · unfold Lst at hj
    rw [Array.getElem?_replicate] at hj
    split at hj <;> cases hj
  · have e : Lst (Array.replicate ops.size false) = fun _ => False := by
      funext j
      unfold Lst
      rw [Array.getElem?_replicate]
      split <;> simp
    rw [e]; exact start
end
end Go.Vi
namespace Go.Vi
variable {K : Known}
def exitOf : Ex → Exit
  | .normal => .normal
  | .exit id => .exit id
  | .ret => .ret
structure FunOk (P : Program) (f : FuncId) (x : Fun) : Prop where
  fn : P.funcs[f]? = some x.fn
  body : x.fn.body = some x.body
  name : x.fn.name ≠ "runtime.NumGoroutine"
  plan : planOk x.plan x.body = true
  code : codeOk x.body = true
structure EnvOk (K : Known) (P : Program) (E : Env) : Prop where
  ty : TysOk P E
  meth : MethOk P E
  fn : ∀ f x, E.fn f = some x → FunOk P f x
  ext : ∀ f g, E.ext f = some g → ∀ args h v h', g args h = some (v, h') → Enters P f ∧ h.next ≤ h'.next ∧
    ∀ ρ w (args' : Array Value), Good K ρ h w → Win ρ h h' → VRels ρ args args'.toList → Calls P f args' w (Post K ρ h w v h')
  mixed : P.follows .mixedOrders = true
  row : RowOk K P E
def markOf (r : Nat) : Deferred := { target := .collected r, args := #[] }
structure Marked (B : Nat) (D : List Deferred) (ρ : Map) (w : World) : Prop where
  ex : ∃ rs : List Nat, D = rs.map markOf ∧ rs.Nodup ∧ ∀ r ∈ rs, B ≤ r ∧ w.heap[r]? = some (.deferred (some [])) ∧ ∀ b i, ρ b = some i → i.ro = false → i.blk ≠ r
  base : B ≤ w.heap.size
theorem Marked.nil {B : Nat} {ρ : Map} {w : World} (h : B ≤ w.heap.size) : Marked B [] ρ w := ⟨⟨[], rfl, List.nodup_nil, fun _ h => absurd h (by simp)⟩, h⟩
theorem heap_lt {w : World} {r : Nat} {o : Obj} (h : w.heap[r]? = some o) : r < w.heap.size := (Array.getElem?_eq_some_iff.1 h).1
theorem Marked.stp {B : Nat} {D : List Deferred} {ρ ρ' : Map} {h h' : Heap} {w w' : World} (m : Marked B D ρ w) (s : Stp ρ h w ρ' h' w') : Marked B D ρ' w' := by
  obtain ⟨⟨rs, hD, hnd, hall⟩, hb⟩ := m
  refine ⟨⟨rs, hD, hnd, fun r hr => ?_⟩, Nat.le_trans hb s.grow⟩
  obtain ⟨h1, h2, h3⟩ := hall r hr
  have hlt := heap_lt h2
  refine ⟨h1, by rw [s.rframe r hlt (fun b i hb _ hz => h3 b i hb hz)]; exact h2, fun b i hbi hz => ?_⟩
  cases hq : ρ b with
  | some i0 => have := s.ext _ _ hq; rw [hbi] at this; cases this; exact h3 b i hq hz
  | none =>
    rcases (s.fromN b i hq hbi).2 with h4 | ⟨c, j, hc, _, hz2, _, he⟩
    · omega
    · rw [← he]; exact h3 c j hc hz2
theorem Marked.push {B : Nat} {D : List Deferred} {ρ : Map} {w : World} {r : Nat} (m : Marked B D ρ w) (hB : B ≤ r) (hr : w.heap[r]? = some (.deferred (some []))) (hn : ∀ b i, ρ b = some i → i.ro = false → i.blk ≠ r)
    (hd : ∀ q, markOf q ∈ D → q ≠ r) : Marked B (markOf r :: D) ρ w := by
  obtain ⟨⟨rs, hD, hnd, hall⟩, hb⟩ := m
  refine ⟨⟨r :: rs, by rw [hD]; rfl, ?_, fun q hq => ?_⟩, hb⟩
  · refine List.nodup_cons.2 ⟨fun hm => ?_, hnd⟩
    exact hd r (by rw [hD]; exact List.mem_map.2 ⟨r, hm, rfl⟩) rfl
  · rcases List.mem_cons.1 hq with rfl | hq
    · exact ⟨hB, hr, hn⟩
    · exact hall q hq
theorem trel_rels {ρ : Map} {t : Tmps} {a : Act} (h : TRel ρ t a) : VRels ρ t a.tmps.toList := by
  refine .of_get (by rw [h.1]; simp) fun j v v' h1 h2 => ?_
  have := h.2 j
  rw [List.getD_eq_getElem?_getD, h1, Array.getD_eq_getD_getElem?, ← Array.getElem?_toList, h2] at this
  exact this
theorem trel_of {ρ : Map} {t : Tmps} {a : Act} (hall : VRels ρ t a.tmps.toList) : TRel ρ t a := by
  refine ⟨by rw [hall.1]; simp, fun i => ?_⟩
  rw [List.getD_eq_getElem?_getD, Array.getD_eq_getD_getElem?]
  cases hx : t[i]? with
  | none =>
    have : a.tmps[i]? = none := by
      rw [← Array.getElem?_toList, List.getElem?_eq_none_iff, ← hall.1]
      exact List.getElem?_eq_none_iff.1 hx
    rw [this]; exact undef_rel
  | some v =>
    obtain ⟨v', hv', rv⟩ := hall.get hx
    rw [Array.getElem?_toList] at hv'
    rw [hv']; exact rv
theorem rels_set {ρ : Map} {l l' : List Value} (h : VRels ρ l l') (n : Nat) {v v' : Value} (hv : VRel ρ v v') : VRels ρ (l.set n v) (l'.set n v') := by
  refine .of_get (by simp [h.1]) fun j x x' h1 h2 => ?_
  rw [List.getElem?_set] at h1 h2
  split at h1
  · rename_i e
    subst e
    rw [if_pos rfl] at h2
    split at h1
    · split at h2
      · cases h1; cases h2; exact hv
      · cases h2
    · cases h1
  · rename_i e
    rw [if_neg e] at h2
    obtain ⟨u, hu, hr⟩ := h.get h1
    rw [hu] at h2; cases h2; exact hr
theorem setAll_rels {ρ : Map} : ∀ (ps : List Tmp) (l l' : List Value) (t : List Value) (T : Array Value), VRels ρ l l' → VRels ρ t T.toList →
    VRels ρ (setAll (ps.zip l) t) ((ps.zip l').foldl (fun tmps (p : Tmp × Value) => tmps.setIfInBounds p.1 p.2) T).toList := by
  intro ps
  induction ps with
  | nil => intro l l' t T _ ht; exact ht
  | cons p ps ih =>
    intro l l' t T hl ht
    cases l with
    | nil => have := hl.nil_inv; subst this; exact ht
    | cons v l =>
      obtain ⟨v', r', rfl, hv, hr⟩ := hl.cons_inv
      simp only [List.zip_cons_cons, setAll, List.foldl_cons]
      exact ih _ _ _ _ hr (by rw [Array.toList_setIfInBounds]; exact rels_set ht _ hv)
section
variable {P : Program} {E : Env} {call : CallV} {D : List Deferred} {rd : Option Nat} {B : Nat}
theorem region_next (rk : RowOk K P E) (ck : CallOk K P call) {pl : Option Plan} {ops : Array Oper} {draw : Bool} {s s' : St} (h : regionV E call pl ops draw s = some s') : s.2.next ≤ s'.2.next := by
  unfold regionV at h
  split at h
  · split at h
    · cases h
    · split at h
      · rename_i s2 hs rs hd
        split at h
        · cases h; exact drawV_next rk ck _ _ _ _ _ _ _ _ hd
        · cases h
      · cases h
  · exact opsV_next rk ck _ _ _ h
theorem sel_out (ko : TysOk P E) {ρ : Map} {t : Tmps} {h h1 : Heap} {a : Act} {w : World} (g : Good K ρ h w) (tr : TRel ρ t a) {o : Oper} {cs : Array SelectCase} {bl : Bool} (hsel : o.op = .select cs bl)
    (hop : o.op.operands.all okOperand = true) {v : Value} (hs : selV E (evV t) h cs bl = some (v, h1)) :
    ∃ (cc : CommCase) (v' : Value) (w' : World), (execOp a.eval o).run P w = .ok (.comm #[cc] false .select) w ∧ VRel ρ v v' ∧ Good K ρ h1 w' ∧ Stp ρ h w ρ h1 w' ∧
      ∀ (fr : Frame) (fs : List Frame) (es : Array Event), stepG P true { frame := fr, callers := fs, status := .running, dying := none } w = .comm { frame := fr, callers := fs, status := .running, dying := none } #[cc] false .select w es →
        step P (lone fr fs w) = .next (lone (fr.finish v') fs w') := by
  obtain ⟨dst, op, ty, pos, after, guard⟩ := o
  simp only at hsel
  subst hsel
  unfold selV at hs
  split at hs
  · rename_i c hcs
    replace hs := bind_some.1 hs; obtain ⟨i, hi, hs⟩ := hs
    replace hs := bind_some.1 hs; obtain ⟨z, hz, hs⟩ := hs
    have hcs' : cs = #[c] := Array.ext' (by rw [hcs])
    subst hcs'
    have hall := Array.all_eq_true_iff_forall_mem.1 hop
    have hm1 : okOperand c.chan = true := hall _ (by simp [Op.operands])
    have hm2 : ∀ x, c.send = some x → okOperand x = true := fun x hx => hall _ (by simp [Op.operands, hx])
    have hzr := zero_rel (ρ := ρ) (ko _ _ hi) hz
    split at hs
    · rename_i r0 hcv
      have hc := tr.ev c.chan
      rw [hcv, ← eval_ok hm1] at hc
      generalize hy : a.eval c.chan = y at hc
      cases hc with
      | chan _ q hq =>
      split at hs
      · rename_i cp buf hget
        obtain ⟨buf', sn, rc, hw, hrel⟩ := g.rel _ _ _ hq hget
        have hsz : buf'.size = buf.length := by rw [hrel.1]; simp
        have hrun : (execOp a.eval ⟨dst, .select #[c] false, ty, pos, after, guard⟩).run P w = .ok (.comm #[{ chan := .chan (some q.blk), send := c.send.map a.eval, zero := z }] false .select) w := by
          simp [execOp, hy, run_zero (ko _ _ hi) hz]
        split at hs
        · rename_i x hx
          have hxr := tr.ev x
          rw [← eval_ok (hm2 x hx)] at hxr
          rw [hx] at hrun
          split at hs
          · rename_i hlt
            cases hs
            obtain ⟨g', s'⟩ := set_obj (o := .chan cp (buf'.push (a.eval x)) false (sn + 1) rc false) (x := .chan cp (buf ++ [evV t x])) g hq hget rfl
              ⟨_, _, _, World.putObj_heap_same (g.ltL hq (by rw [hget]; simp)), by rw [Array.toList_push]; exact hrel.append (.cons hxr .nil)⟩
            refine ⟨_, _, _, hrun, plain_rel 3 (.tuple #[goInt 0, .bool false]) rfl, g', s', fun fr fs es he => ?_⟩
            exact Go.Conc.step_lone_select_send_room he hw (by omega)
          · rename_i hge
            cases hs
            refine ⟨_, _, w, hrun, plain_rel 3 (.tuple #[goInt (-1), .bool false]) rfl, g, .refl _ _ _, fun fr fs es he => ?_⟩
            exact Go.Conc.step_lone_select_send_full he hw (by omega)
        · rename_i hx
          rw [hx] at hrun
          split at hs
          · rename_i u r' 
            cases hs
            obtain ⟨u', b', hb', hu, hr'⟩ := hrel.cons_inv
            have hbe : buf' = (u' :: b').toArray := Array.ext' (by rw [hb'])
            subst hbe
            obtain ⟨g', s'⟩ := set_obj (o := .chan cp b'.toArray false sn (rc + 1) false) (x := .chan cp r') g hq hget rfl
              ⟨_, _, _, World.putObj_heap_same (g.ltL hq (by rw [hget]; simp)), hr'⟩
            refine ⟨_, .tuple #[goInt 0, .bool true, u'], _, hrun, .tuple _ _ rfl (fun j h1 h2 => ?_), g', s', fun fr fs es he => ?_⟩
            · match j, h1 with
              | 0, _ => exact .int _ _
              | 1, _ => exact .bool _
              | 2, _ => exact hu
            · have := Go.Conc.step_lone_select_recv_buf he hw (by simp)
              have e1 : (u' :: b').toArray.extract 1 (u' :: b').toArray.size = b'.toArray := by
                apply Array.ext'; simp [List.take_of_length_le]
              rw [e1] at this
              exact this
          · cases hs
            have hb0 := hrel.nil_inv
            have hbe : buf' = #[] := Array.ext' hb0
            subst hbe
            refine ⟨_, .tuple #[goInt (-1), .bool false, z], w, hrun, .tuple _ _ rfl (fun j h1 h2 => ?_), g, .refl _ _ _, fun fr fs es he => ?_⟩
            · match j, h1 with
              | 0, _ => exact .int _ _
              | 1, _ => exact .bool _
              | 2, _ => exact hzr
            · exact Go.Conc.step_lone_select_default he hw
      · cases hs
    · cases hs
  · cases hs
theorem select_head (ko : TysOk P E) (mo : MethOk P E) (rk : RowOk K P E) (ck : CallOk K P call) {ops : Array Oper} (hh : selHead ops = true) {s s' : St} {ρ : Map} {a : Act} {w : World} (h : opsV E call ops ops.toList s = some s')
    (sr : SRel K D ρ s a w) (win : Win ρ s.2 s'.2) {id : Nat} {Q : Exit → Act → World → Prop} (k : ∀ ρ' a' w', SRel K D ρ' s' a' w' → Stp ρ s.2 w ρ' s'.2 w' → Q .normal a' w') : (Code.region id ops false).wpIn (W rd) 0 P Q a w := by
  unfold selHead at hh
  split at hh
  · rename_i o r hops
    simp only [Bool.and_eq_true] at hh
    obtain ⟨⟨⟨h1, h2⟩, h3⟩, h4⟩ := hh
    obtain ⟨cs, bl, hsel⟩ : ∃ cs bl, o.op = .select cs bl := by
      cases hop : o.op <;> rw [hop] at h1 <;> simp at h1
      exact ⟨_, _, rfl⟩
    have hgd : o.guard = none := by simpa using h3
    have hwv : wantedV ops o s.1 = true := by unfold wantedV; rw [hgd]
    have hw : Region.wanted o (yielded ops a.tmps) = true := by rw [← wanted_eq sr.t]; exact hwv
    have hheavy : heavyOp o = true := by unfold heavyOp; rw [hsel]
    rw [hops] at h
    unfold opsV at h
    rw [if_pos hwv] at h
    split at h
    · rename_i v h1' hst
      unfold stepV at hst
      obtain ⟨l1, l2, l3⟩ := light_no (E := E) (ev := evV s.1) (hp := s.2) hheavy
      simp only [l1, l2, l3] at hst
      have hst' : selV E (evV s.1) s.2 cs bl = some (v, h1') := by
        unfold heavyV at hst
        rw [hsel] at hst
        exact hst
      obtain ⟨cc, v', w', hrun, rv, g', st, hstep⟩ := sel_out ko sr.g sr.t hsel h2 hst'
      have sr1 : SRel K D ρ (putV s.1 o.dst v, h1') (a.put o.dst v') w' := ⟨sr.t.put rv o.dst, by rw [put_defers]; exact sr.d, g'⟩
      have hn := opsV_next rk ck _ _ _ h
      simp only at hn
      have hl : wpListIn (W rd) 0 P ops Q r (a.put o.dst v') w' :=
        ops_sound ko mo rk ck _ _ _ _ _ _ h h4 sr1 (win.sub st (Nat.le_refl _)) fun ρ2 a2 w2 sr2 st2 => k ρ2 a2 w2 sr2 (Stp.trans sr.g.fresh g'.fresh st st2)
      have hsz : ops.size = r.length + 1 := by rw [← Array.length_toList, hops]; rfl
      have ho : ops[0]? = some o := by rw [← Array.getElem?_toList, hops]; rfl
      have hl2 : wpOpsIn (W rd) 0 P ops Q (List.range' 1 r.length) (a.put o.dst v') w' := by
        rw [wpOpsIn_eq_wpListIn r 1 (fun j => by rw [← Array.getElem?_toList, hops, Nat.add_comm, List.getElem?_cons_succ])]
        exact hl
      intro b kk fs hro hb hr
      obtain ⟨e, a2, w2, hq, harr⟩ := wp_opsIn _ _ _ hl2 b kk fs hro hb hr
      have hrange : List.range ops.size = 0 :: List.range' 1 r.length := by rw [hsz, List.range_eq_range', List.range'_succ]
      have s1 := stepR_region (P := P) (b := b) (a := a) (k := kk) (cs := fs) (w := w) (ops := ops) (id := id)
      rw [hrange] at s1
      have hg := stepGR_op (P := P) (b := b) (a := a) (k := kk) (cs := fs) (w := w) (rest := List.range' 1 r.length) ho hw
      rw [Oper.semAt_eq _ _ _ (by intro c hc; rw [hsel] at hc; cases hc)] at hg
      obtain ⟨es, hg2⟩ : ∃ es, stepG P true { frame := b.atR a (.inRegion ops (0 :: List.range' 1 r.length) :: kk), callers := fs, status := .running, dying := none } w =
          .comm { frame := b.atR a (.inRegion ops (0 :: List.range' 1 r.length) :: kk), callers := fs, status := .running, dying := none } #[cc] false .select w es := by
        rw [hg]
        simp only [stepG.apply, Sem.runT_eq, hrun, GStep.after, if_true]
        exact ⟨_, rfl⟩
      have s2 := hstep _ _ _ hg2
      rw [Frame.finish_atR, ho] at s2
      refine ⟨e, a2, w2, hq, .of_steps (.head ?_ s1 (.one ?_ s2)) harr⟩
      · exact fenced_calm hb hr rfl
      · exact fenced_oper hb hr ho fun f hf => by simp [Oper.about, hsel] at hf
    · cases h
  · cases hh
theorem region_sound (ko : TysOk P E) (mo : MethOk P E) (mx : P.follows .mixedOrders = true) (rk : RowOk K P E) (ck : CallOk K P call) {id : Nat} {pl : Option Plan} {ops : Array Oper} {draw : Bool} {s s' : St} (h : regionV E call pl ops draw s = some s')
    (hok : (ops.toList.all opOk || (!draw && selHead ops)) = true) (hpl : (!draw || planFor pl ops) = true) {ρ : Map} {a : Act} {w : World} (sr : SRel K D ρ s a w) (win : Win ρ s.2 s'.2)
    {Q : Exit → Act → World → Prop} (k : ∀ ρ' a' w', SRel K D ρ' s' a' w' → Stp ρ s.2 w ρ' s'.2 w' → Q .normal a' w') : (Code.region id ops draw).wpIn (W rd) 0 P Q a w := by
  unfold regionV at h
  cases draw with
  | false =>
    simp only [Bool.false_eq_true, if_false] at h
    rcases Bool.or_eq_true_iff.1 hok with hok | hok
    · exact wpIn_region_list (ops_sound ko mo rk ck _ _ _ _ _ _ h hok sr win k)
    · exact select_head ko mo rk ck (by simpa using hok) h sr win k
  | true =>
    have hok : ops.toList.all opOk = true := by simpa using hok
    simp only [if_true] at h
    split at h
    · cases h
    · rename_i p
      have hm : mkPlan ops = some p := by simpa [planFor] using hpl
      split at h
      · rename_i s2 hs rs hd
        split at h
        · rename_i hall
          cases h
          refine wpIn_region_any mx ?_
          have srd : SRel K D ρ s a w.drew := ⟨sr.t, sr.d, rdN_drew sr.g⟩
          exact draw_sound ko mo rk ck hm hok hd hall srd win fun ρ' a' w' sr' st => k ρ' a' w' sr' (stp_drew st)
        · cases h
      · cases h
theorem iter_next {f : St → Option (Ex × St)} (hf : ∀ s x s', f s = some (x, s') → s.2.next ≤ s'.2.next) : ∀ (n : Nat) (s : St) (x : Ex) (s' : St), iterV f n s = some (x, s') → s.2.next ≤ s'.2.next := by
  intro n
  induction n with
  | zero => intro s x s' h; simp [iterV] at h
  | succ n ih =>
    intro s x s' h
    unfold iterV at h
    split at h
    · rename_i s1 h1
      have := hf _ _ _ h1
      have := ih _ _ _ h
      omega
    · exact hf _ _ _ h
theorem code_next (rk : RowOk K P E) (ck : CallOk K P call) {pl : Nat → Option Plan} {fuel : Nat} : ∀ (c : Code) (s : St) (x : Ex) (s' : St), codeV E call pl fuel c s = some (x, s') → s.2.next ≤ s'.2.next := by
  intro c
  induction c with
  | skip => intro s x s' h; simp [codeV] at h; rw [h.2]; exact Nat.le_refl _
  | region id ops draw =>
    intro s x s' h
    simp only [codeV, Option.map_eq_some_iff] at h
    obtain ⟨s1, h1, h2⟩ := h
    cases h2
    exact region_next rk ck h1
  | seq a b iha ihb =>
    intro s x s' h
    simp only [codeV] at h
    split at h
    · rename_i s1 h1
      have := iha _ _ _ h1
      have := ihb _ _ _ h
      omega
    · exact iha _ _ _ h
  | cond c a b iha ihb =>
    intro s x s' h
    simp only [codeV] at h
    split at h
    · exact iha _ _ _ h
    · exact ihb _ _ _ h
    · cases h
  | block id b ih =>
    intro s x s' h
    simp only [codeV] at h
    split at h
    · rename_i i s1 h1
      split at h <;> cases h <;> exact ih _ _ _ h1
    · exact ih _ _ _ h
  | loop b ih => intro s x s' h; simp only [codeV] at h; exact iter_next ih _ _ _ _ h
  | exit id => intro s x s' h; simp [codeV] at h; rw [h.2]; exact Nat.le_refl _
  | ret => intro s x s' h; simp [codeV] at h; rw [h.2]; exact Nat.le_refl _
  | rangeFunc f ps a b _ _ =>
    intro s x s' h
    simp only [codeV] at h
    split at h
    · cases h
    · split at h
      · split at h
        · rename_i u h2 hcall
          split at h
          · split at h
            · cases h
            · obtain ⟨x0, hx0, he⟩ := Option.map_eq_some_iff.1 h
              cases he
              have := ck.next _ _ _ _ _ hcall
              have e1 : (s.2.new (.loop { st := .ready, pending := none, tmps := s.1, params := ps, assign := a, body := b, plan := pl })).next = s.2.next + 1 := rfl
              show s.2.next ≤ h2.next
              omega
          · cases h
        · cases h
      · cases h
  | scope b _ => intro s x s' h; simp [codeV] at h
  | label l => intro s x s' h; simp [codeV] at h
  | goto l => intro s x s' h; simp [codeV] at h
  | refuse w => intro s x s' h; simp [codeV] at h
theorem cond_val {ρ : Map} {s : St} {a : Act} (tr : TRel ρ s.1 a) {c : Operand} (hok : okOperand c = true) {b : Bool} (h : evV s.1 c = .bool b) : a.eval c = .bool b := by
  have := tr.ev c
  rw [h] at this
  rw [eval_ok hok]
  exact this.bool_inv
theorem code_sound (ko : TysOk P E) (mo : MethOk P E) (mx : P.follows .mixedOrders = true) (rk : RowOk K P E) (ck : CallOk K P call) {pl : Nat → Option Plan} {fuel : Nat} :
    ∀ (c : Code) (s : St) (x : Ex) (s' : St), codeV E call pl fuel c s = some (x, s') → codeOk c = true → planOk pl c = true → (rd = none ∨ flat c = true) → ∀ (D : List Deferred) (ρ : Map) (a : Act) (w : World), SRel K D ρ s a w → Marked B D ρ w → Win ρ s.2 s'.2 →
      ∀ {Q : Exit → Act → World → Prop}, (∀ D' ρ' a' w', SRel K D' ρ' s' a' w' → Marked B D' ρ' w' → Stp ρ s.2 w ρ' s'.2 w' → Q (exitOf x) a' w') → c.wpIn (W rd) 0 P Q a w := by
  intro c
  induction c with
  | skip =>
    intro s x s' h _ _ _ D ρ a w sr mk win Q k
    simp [codeV] at h
    obtain ⟨rfl, rfl⟩ := h
    exact wpIn_skip (k D ρ a w sr mk (.refl _ _ _))
  | exit id =>
    intro s x s' h _ _ _ D ρ a w sr mk win Q k
    simp [codeV] at h
    obtain ⟨rfl, rfl⟩ := h
    exact wpIn_exit (k D ρ a w sr mk (.refl _ _ _))
  | ret =>
    intro s x s' h _ _ _ D ρ a w sr mk win Q k
    simp [codeV] at h
    obtain ⟨rfl, rfl⟩ := h
    exact wpIn_ret (k D ρ a w sr mk (.refl _ _ _))
  | region id ops draw =>
    intro s x s' h hc hp _ D ρ a w sr mk win Q k
    simp only [codeV, Option.map_eq_some_iff] at h
    obtain ⟨s1, h1, h2⟩ := h
    cases h2
    exact region_sound ko mo mx rk ck h1 hc hp sr win fun ρ' a' w' sr' st' => k D ρ' a' w' sr' (mk.stp st') st'
  | seq a b iha ihb =>
    intro s x s' h hc hp hf D ρ ac w sr mk win Q k
    simp only [codeOk, Bool.and_eq_true] at hc
    simp only [planOk, Bool.and_eq_true] at hp
    simp only [flat, Bool.and_eq_true] at hf
    simp only [codeV] at h
    refine wpIn_seq ?_
    split at h
    · rename_i s1 h1
      have hn := code_next rk ck _ _ _ _ h
      refine iha _ _ _ h1 hc.1 hp.1 (hf.imp id (·.1)) D ρ ac w sr mk (fun b q1 q2 => win b q1 (by omega)) fun D1 ρ1 a1 w1 sr1 mk1 st1 => ?_
      refine ihb _ _ _ h hc.2 hp.2 (hf.imp id (·.2)) D1 ρ1 a1 w1 sr1 mk1 (win.sub st1 (Nat.le_refl _)) fun D2 ρ2 a2 w2 sr2 mk2 st2 => ?_
      exact k D2 ρ2 a2 w2 sr2 mk2 (Stp.trans sr.g.fresh sr1.g.fresh st1 st2)
    · rename_i hne
      refine iha _ _ _ h hc.1 hp.1 (hf.imp id (·.1)) D ρ ac w sr mk win fun D1 ρ1 a1 w1 sr1 mk1 st1 => ?_
      cases x with
      | normal => exact absurd h (hne s')
      | exit id => exact k D1 ρ1 a1 w1 sr1 mk1 st1
      | ret => exact k D1 ρ1 a1 w1 sr1 mk1 st1
  | cond c a b iha ihb =>
    intro s x s' h hc hp hf D ρ ac w sr mk win Q k
    simp only [codeOk, Bool.and_eq_true] at hc
    simp only [planOk, Bool.and_eq_true] at hp
    simp only [flat, Bool.and_eq_true] at hf
    simp only [codeV] at h
    split at h
    · rename_i hv
      exact wpIn_cond_true (cond_val sr.t hc.1.1 hv) (iha _ _ _ h hc.1.2 hp.1 (hf.imp id (·.1)) D ρ ac w sr mk win k)
    · rename_i hv
      exact wpIn_cond_false (cond_val sr.t hc.1.1 hv) (ihb _ _ _ h hc.2 hp.2 (hf.imp id (·.2)) D ρ ac w sr mk win k)
    · cases h
  | block id b ih =>
    intro s x s' h hc hp hf D ρ a w sr mk win Q k
    simp only [codeV] at h
    refine wpIn_block ?_
    split at h
    · rename_i i s1 h1
      split at h
      · rename_i hi
        cases h
        refine ih _ _ _ h1 hc hp hf D ρ a w sr mk win fun D1 ρ1 a1 w1 sr1 mk1 st1 => ?_
        simp only [exitOf, Exit.inBlock]
        rw [if_pos hi]
        exact k D1 ρ1 a1 w1 sr1 mk1 st1
      · rename_i hi
        cases h
        refine ih _ _ _ h1 hc hp hf D ρ a w sr mk win fun D1 ρ1 a1 w1 sr1 mk1 st1 => ?_
        simp only [exitOf, Exit.inBlock]
        rw [if_neg hi]
        exact k D1 ρ1 a1 w1 sr1 mk1 st1
    · rename_i hne
      refine ih _ _ _ h hc hp hf D ρ a w sr mk win fun D1 ρ1 a1 w1 sr1 mk1 st1 => ?_
      cases x with
      | normal => exact k D1 ρ1 a1 w1 sr1 mk1 st1
      | exit i => exact absurd h (hne i s')
      | ret => exact k D1 ρ1 a1 w1 sr1 mk1 st1
  | loop b ih =>
    intro s x s' h hc hp hf D ρ a w sr mk win Q k
    simp only [codeV] at h
    refine wpIn_loop_rounds fuel ?_
    have key : ∀ (n : Nat) (s : St), iterV (codeV E call pl fuel b) n s = some (x, s') → ∀ (D : List Deferred) (ρ : Map) (a : Act) (w : World), SRel K D ρ s a w → Marked B D ρ w → Win ρ s.2 s'.2 →
        (∀ D' ρ' a' w', SRel K D' ρ' s' a' w' → Marked B D' ρ' w' → Stp ρ s.2 w ρ' s'.2 w' → Q (exitOf x) a' w') → Code.roundsIn (W rd) 0 P b Q n a w := by
      intro n
      induction n with
      | zero => intro s h; simp [iterV] at h
      | succ n ihn =>
        intro s h D ρ a w sr mk win k
        rw [roundsIn_succ]
        unfold iterV at h
        split at h
        · rename_i s1 h1
          have hn := iter_next (fun s x s' h => code_next rk ck b s x s' h) _ _ _ _ h
          refine ih _ _ _ h1 hc hp hf D ρ a w sr mk (fun b q1 q2 => win b q1 (by omega)) fun D1 ρ1 a1 w1 sr1 mk1 st1 => ?_
          exact ihn s1 h D1 ρ1 a1 w1 sr1 mk1 (win.sub st1 (Nat.le_refl _)) fun D2 ρ2 a2 w2 sr2 mk2 st2 => k D2 ρ2 a2 w2 sr2 mk2 (Stp.trans sr.g.fresh sr1.g.fresh st1 st2)
        · rename_i hne
          refine ih _ _ _ h hc hp hf D ρ a w sr mk win fun D1 ρ1 a1 w1 sr1 mk1 st1 => ?_
          cases x with
          | normal => exact absurd h (hne s')
          | exit i => exact k D1 ρ1 a1 w1 sr1 mk1 st1
          | ret => exact k D1 ρ1 a1 w1 sr1 mk1 st1
    exact key fuel s h D ρ a w sr mk win k
  | rangeFunc g ps a b _ _ =>
    intro s x s' h hc hp hf D ρ ac w sr mk win Q k
    simp only [codeOk, Bool.and_eq_true] at hc
    simp only [planOk, Bool.and_eq_true] at hp
    have hrd : rd = none := by
      rcases hf with h | h
      · exact h
      · simp [flat] at h
    subst hrd
    simp only [codeV] at h
    split at h
    · cases h
    · rename_i hflat
      have hfa : flat a = true ∧ flat b = true := by simpa using hflat
      split at h
      · rename_i f first captured hev
        split at h
        · rename_i u h2 hcall
          split at h
          · rename_i r hr2
            split at h
            · cases h
            · rename_i hbusy
              obtain ⟨x0, hx0, he⟩ := Option.map_eq_some_iff.1 h
              cases he
              have hn2 := ck.next _ _ _ _ _ hcall
              have hn2' : s.2.next + 1 ≤ h2.next := hn2
              have hwin2 : h2.next = (h2.set s.2.next (.loop { r with st := .exhausted })).next := rfl
              have hn : ρ s.2.next = none := win _ (Nat.le_refl _) (by show s.2.next < h2.next; omega)
              have hge := sr.t.ev g
              rw [hev, ← eval_ok hc.1.1] at hge
              cases hge' : ac.eval g <;> rw [hge'] at hge <;> cases hge
              rename_i l' c' hl hlr kl klr
              refine wpIn_rangeFunc fun fn _ => ?_
              obtain ⟨ga, sa⟩ := step_grow (w' := w.alloc (.deferred (some []))) sr.g ⟨by rw [World.size_alloc]; omega, rfl, rfl⟩ (fun r hr => alloc_old w _ r hr)
              have horel : ∀ ρ' : Map, Ext ρ ρ' → ORel ρ' (.loop { st := .ready, pending := none, tmps := s.1, params := ps, assign := a, body := b, plan := pl }) { blk := w.heap.size + 1, base := 0, opn := none, tot := 0 }
                  ((w.alloc (.deferred (some []))).alloc (.loop { state := .ready, pending := none, fn, tmps := ac.tmps, params := ps, assign := a, body := b, defers := w.heap.size })) := by
                intro ρ' e
                refine ⟨rfl, hc.1.2, hc.2, hp.1, hp.2, hfa.1, hfa.2, { state := .ready, pending := none, fn, tmps := ac.tmps, params := ps, assign := a, body := b, defers := w.heap.size }, ?_, rfl, rfl, rfl, rfl, rfl, (trel_rels sr.t).ext e⟩
                have := alloc_new (w.alloc (.deferred (some []))) (.loop { state := .ready, pending := none, fn, tmps := ac.tmps, params := ps, assign := a, body := b, defers := w.heap.size })
                rw [World.size_alloc] at this
                exact this
              obtain ⟨gb, sb⟩ := step_new (i := { blk := w.heap.size + 1, base := 0, opn := none, tot := 0 })
                (w' := (w.alloc (.deferred (some []))).alloc (.loop { state := .ready, pending := none, fn, tmps := ac.tmps, params := ps, assign := a, body := b, defers := w.heap.size })) ga hn
                (by rw [World.size_alloc]) ⟨by rw [World.size_alloc], rfl, rfl⟩ (fun r hr => alloc_old _ _ r hr) (horel _ (upd_ext _ hn))
              have e0 := upd_ext (ρ := ρ) { blk := w.heap.size + 1, base := 0, opn := none, tot := 0 } hn
              have hmk : Marked B (markOf w.heap.size :: D) (upd ρ s.2.next { blk := w.heap.size + 1, base := 0, opn := none, tot := 0 })
                  ((w.alloc (.deferred (some []))).alloc (.loop { state := .ready, pending := none, fn, tmps := ac.tmps, params := ps, assign := a, body := b, defers := w.heap.size })) := by
                refine ((mk.stp sa).stp sb).push mk.base ?_ (fun c i hci hz => ?_) (fun q hq => ?_)
                · rw [alloc_old _ _ _ (by rw [World.size_alloc]; omega)]; exact alloc_new w _
                · unfold upd at hci
                  split at hci
                  · cases hci; simp
                  · have := sr.g.lt _ _ hci hz; omega
                · obtain ⟨⟨rs, hD, _, hall⟩, _⟩ := mk
                  rw [hD] at hq
                  obtain ⟨q', hq', he⟩ := List.mem_map.1 hq
                  cases he
                  have := heap_lt (hall q hq').2.1
                  omega
              have hwin : Win (upd ρ s.2.next { blk := w.heap.size + 1, base := 0, opn := none, tot := 0 }) (s.2.new (.loop { st := .ready, pending := none, tmps := s.1, params := ps, assign := a, body := b, plan := pl })) h2 := by
                intro c q1 q2
                have q1' : s.2.next + 1 ≤ c := q1
                unfold upd
                rw [if_neg (by omega)]
                exact win c (by omega) (by show c < h2.next; exact q2)
              have hall : VRels (upd ρ s.2.next { blk := w.heap.size + 1, base := 0, opn := none, tot := 0 }) (first.toList ++ [Value.func (.yield s.2.next) #[] #[]] ++ captured.toList)
                  ((l' ++ #[Value.func (.yield (w.heap.size + 1)) #[] #[]]) ++ c').toList := by
                rw [Array.toList_append, Array.toList_append]
                exact (VRels.append (VRels.ext e0 ⟨hl, hlr⟩) (.cons (.yield _ _ upd_self rfl) .nil)).append (VRels.ext e0 ⟨kl, klr⟩)
              have hcalls := ck.calls _ _ _ _ _ hcall _ _ _ gb hwin hall
              refine ⟨w.heap.size + 1, [markOf w.heap.size], _, { target := .fn (.func f) c', args := l' ++ #[.func (.yield (w.heap.size + 1)) #[] #[]] },
                (w.alloc (.deferred (some []))).alloc (.loop { state := .ready, pending := none, fn, tmps := ac.tmps, params := ps, assign := a, body := b, defers := w.heap.size }), f, _, _, run_enterLoop_outer _ _ _ _ _, ?_, fun _ _ => trivial, ?_, W_deep, callsIn_W.2 (Calls.mono hcalls fun e w3 hp3 => ?_)⟩
              · have hmap : (#[Operand.const (.func (.yield (w.heap.size + 1)) #[] #[])] : Array Operand).map ac.eval = #[.func (.yield (w.heap.size + 1)) #[] #[]] := by simp [Act.eval]
                simp only [resolve, hge', Deferred.ofValue, hmap]
                rfl
              · simp [invoke, run_enter (ck.enters _ _ _ _ _ hcall)]
              · obtain ⟨ρ3, v3, rfl, _, g3, s3⟩ := hp3
                have hi3 := s3.ext _ _ (upd_self (ρ := ρ) (n := s.2.next) (i := { blk := w.heap.size + 1, base := 0, opn := none, tot := 0 }))
                obtain ⟨q0, q1, q2, q3, q4, q5, q6, L, hL, e1, e2, e3, e4, e5, e6⟩ := g3.rel _ _ _ hi3 hr2
                have hnb : L.state ≠ .busy := by rw [e1]; simpa using hbusy
                obtain ⟨g4, s4⟩ := set_obj (o := .loop { L with state := .exhausted }) (x := .loop { r with st := .exhausted }) g3 hi3 hr2 rfl
                  ⟨q0, q1, q2, q3, q4, q5, q6, _, World.putObj_heap_same (g3.ltL hi3 (by rw [hr2]; simp)), rfl, e2, e3, e4, e5, e6⟩
                have st : Stp ρ s.2 w ρ3 (h2.set s.2.next (.loop { r with st := .exhausted })) (w3.putObj (w.heap.size + 1) (.loop { L with state := .exhausted })) :=
                  Stp.trans sr.g.fresh g3.fresh (Stp.trans sr.g.fresh gb.fresh (Stp.trans sr.g.fresh ga.fresh sa sb) s3) s4
                have mk4 := (hmk.stp s3).stp s4
                have hk := k (markOf w.heap.size :: D) ρ3 { ac with defers := [markOf w.heap.size] ++ ac.defers } _ ⟨TRel.ext st.ext sr.t, by simp [sr.d], g4⟩ mk4 st
                refine ⟨r.pending, _, by rw [← e2]; exact run_endLoop hL hnb, ?_⟩
                unfold exOf at hx0
                split at hx0
                · rename_i hpd; cases hx0; rw [hpd]; exact hk
                · rename_i id hpd; cases hx0; rw [hpd]; exact wpIn_exit hk
                · rename_i hpd; cases hx0; rw [hpd]; exact wpIn_ret hk
                · cases hx0
          · cases h
        · cases h
      · cases h
  | scope b _ => intro s x s' h; simp [codeV] at h
  | label l => intro s x s' h; simp [codeV] at h
  | goto l => intro s x s' h; simp [codeV] at h
  | refuse w => intro s x s' h; simp [codeV] at h
theorem results_run (ko : TysOk P E) {ρ : Map} {s : St} {a : Act} {w : World} (sr : SRel K D ρ s a w) {f : ResultVar → Sem Value} (ft : ∀ t w, (f (.tmp t)).run P w = .ok (a.tmps.getD t undef) w)
    (fc : ∀ x t b v w, a.tmps.getD x undef = .pointer (some b) → (loadVar t b).run P w = .ok v w → (f (.cell x t)).run P w = .ok v w) : ∀ (rs : List ResultVar) (l : List Value), resultsV E s rs = some l →
    ∃ l', VRels ρ l l' ∧ (rs.mapM f).run P w = .ok l' w := by
  intro rs
  induction rs with
  | nil => intro l h; simp [resultsV] at h; subst h; exact ⟨[], .nil, by simp⟩
  | cons r rs ih =>
    intro l h
    cases r with
    | tmp t =>
      simp only [resultsV, Option.map_eq_some_iff] at h
      obtain ⟨l0, h0, rfl⟩ := h
      obtain ⟨l', rl, run⟩ := ih l0 h0
      exact ⟨_ :: l', VRels.cons (sr.t.2 t) rl, by simp only [List.mapM_cons, Sem.run_bind, ft, Result.andThen_ok, run, Sem.run_pure]⟩
    | cell x t =>
      simp only [resultsV] at h
      replace h := bind_some.1 h; obtain ⟨v, hv, h⟩ := h
      replace h := bind_some.1 h; obtain ⟨l0, h0, h⟩ := h
      cases h
      obtain ⟨l', rl, run⟩ := ih l0 h0
      obtain ⟨v', rv, runv⟩ := load_run (P := P) ko sr.g (sr.t.2 x) hv
      refine ⟨v' :: l', VRels.cons rv rl, ?_⟩
      have hx := sr.t.2 x
      have : ∃ b, a.tmps.getD x undef = .pointer (some b) := by
        unfold loadV at hv
        replace hv := bind_some.1 hv; obtain ⟨i, hi, hv⟩ := hv
        replace hv := bind_some.1 hv; obtain ⟨q, hq, hv⟩ := hv
        unfold ptrOf at hq
        split at hq
        · rename_i b hb
          rw [hb] at hx
          obtain ⟨j, _, _, hp⟩ := ptr_inv hx
          exact ⟨_, hp⟩
        · cases hq
      obtain ⟨b, hb⟩ := this
      rw [hb] at runv
      simp only [Instr.loadAt, Instr.sureAddr, Sem.run_bind, Sem.run_pure, Result.andThen_ok] at runv
      simp only [List.mapM_cons, Sem.run_bind, fc _ _ _ _ _ hb runv, Result.andThen_ok, run, Sem.run_pure]
def resF (a : Act) (r : ResultVar) : Sem Value :=
  match r with
  | .tmp t => pure (a.tmps.getD t undef)
  | .cell x t => do loadVar t (← asAddr (a.tmps.getD x undef))
theorem results_eq (fn : Func) (a : Act) : results fn a.tmps = (do
    let vs ← fn.results.mapM (resF a)
    pure (if h : vs.size = 1 then vs[0] else .tuple vs)) := rfl
theorem callV_fn {n : Nat} {f : FuncId} {args : List Value} {h : Heap} : (callV E (n + 1)).fn f args h = (match E.ext f with
    | some g => g args h
    | none =>
    match E.fn f with
    | none => none
    | some fn =>
      match codeV E (callV E n) fn.plan n fn.body (args ++ List.replicate (fn.fn.ntmps - args.length) undef, h) with
      | some (.normal, s) | some (.ret, s) => (resultsV E s fn.fn.results.toList).map fun l => (oneOrTuple l, s.2)
      | _ => none) := rfl
theorem callV_yld {n l : Nat} {args : List Value} {h : Heap} : (callV E (n + 1)).yld l args h = yldV E (callV E n) n l args h := rfl
theorem yld_next (rk : RowOk K P E) (ck : CallOk K P call) {n l : Nat} {args : List Value} {h h' : Heap} {v : Value} (hy : yldV E call n l args h = some (v, h')) : h.next ≤ h'.next := by
  unfold yldV at hy
  split at hy
  · split at hy
    · cases hy
    · split at hy
      · rename_i s1 h1
        split at hy
        · split at hy
          · split at hy
            · rename_i x s3 h3
              split at hy
              · cases hy
                have e1 := code_next rk ck _ _ _ _ h1
                have e3 := code_next rk ck _ _ _ _ h3
                exact Nat.le_trans e1 e3
              · cases hy
            · cases hy
          · cases hy
        · cases hy
      · cases hy
  · cases hy
theorem yld_ok (ok : EnvOk K P E) (ck : CallOk K P call) {n l : Nat} {args : List Value} {h h' : Heap} {v : Value} (hy : yldV E call n l args h = some (v, h')) {ρ : Map} {w : World} {args' : Array Value} {i : Info}
    (hi : ρ l = some i) (g : Good K ρ h w) (win : Win ρ h h') (hargs : VRels ρ args args'.toList) :
    ∃ L : Loop, w.heap[i.blk]? = some (.loop L) ∧ args'.size = L.params.size ∧
      RoundIn (W none) 0 P i.blk L.fn ((L.params.zip args').foldl (fun tmps (t, a) => tmps.setIfInBounds t a) L.tmps) L.assign L.body w (Post K ρ h w v h') := by
  unfold yldV at hy
  split at hy
  · rename_i r hget
    split at hy
    · cases hy
    · rename_i hlen
      split at hy
      · rename_i s1 h1
        split at hy
        · rename_i r1 hget1
          split at hy
          · rename_i hready
            split at hy
            · rename_i x s3 h3
              split at hy
              · rename_i r3 hget3
                cases hy
                obtain ⟨q0, q1, q2, q3, q4, q5, q6, L, hL, e1, e2, e3, e4, e5, e6⟩ := g.rel _ _ _ hi hget
                have n1 := code_next ok.row ck _ _ _ _ h1
                have n3 := code_next ok.row ck _ _ _ _ h3
                have n3 : s1.2.next ≤ s3.2.next := n3
                refine ⟨L, hL, ?_, ?_⟩
                · rw [e3]
                  have := hargs.1
                  simp only [Array.length_toList] at this
                  omega
                · rw [e4, e5]
                  refine roundIn_of_wpIn trivial ?_
                  have srA : SRel K [] ρ (setAll (r.params.toList.zip args) r.tmps, h) { tmps := (L.params.zip args').foldl (fun tmps (t, a) => tmps.setIfInBounds t a) L.tmps, defers := [] } w := by
                    refine ⟨trel_of ?_, rfl, g⟩
                    have := setAll_rels r.params.toList args args'.toList r.tmps L.tmps hargs e6
                    rw [e3, ← Array.foldl_toList, Array.toList_zip]
                    exact this
                  refine code_sound (rd := some i.blk) (B := 0) ok.ty ok.meth ok.mixed ok.row ck _ _ _ _ h1 q1 q3 (.inr q5) [] ρ _ w srA (.nil (Nat.zero_le _)) (fun c c1 c2 => win c c1 (Nat.lt_of_lt_of_le c2 n3)) fun D1 ρ1 a1 w1 sr1 mk1 st1 => ?_
                  have hi1 := st1.ext _ _ hi
                  obtain ⟨f0, f1, f2, f3, f4, f5, f6, L1, hL1, d1, d2, d3, d4, d5, d6⟩ := sr1.g.rel _ _ _ hi1 hget1
                  have hst : L1.state = .ready := by rw [d1]; simpa using hready
                  refine ⟨_, run_beginRound hL1 hst, ?_⟩
                  obtain ⟨g2, s2⟩ := set_obj (o := .loop { L1 with state := .busy }) (x := .loop { r1 with st := .busy }) sr1.g hi1 hget1 rfl
                    ⟨f0, f1, f2, f3, f4, f5, f6, { L1 with state := .busy }, World.putObj_heap_same (sr1.g.ltL hi1 (by rw [hget1]; simp)), rfl, d2, d3, d4, d5, d6⟩
                  have win1 : Win ρ1 s1.2 s3.2 := Win.sub (h3 := s3.2) win st1 (Nat.le_refl _)
                  refine code_sound (rd := some i.blk) (B := 0) ok.ty ok.meth ok.mixed ok.row ck _ _ _ _ h3 q2 q4 (.inr q6) D1 ρ1 a1 _ ⟨sr1.t, sr1.d, g2⟩ (mk1.stp s2) win1 fun D3 ρ3 a3 w3 sr3 mk3 st3 => ?_
                  have hi3 := st3.ext _ _ hi1
                  obtain ⟨k0, k1, k2, k3, k4, k5, k6, L3, hL3, b1, b2, b3, b4, b5, b6⟩ := sr3.g.rel _ _ _ hi3 hget3
                  have hend := run_endRound (P := P) (jumpOf x) hL3
                  obtain ⟨g4, s4⟩ := set_obj (o := .loop { L3 with state := if (jumpOf x).isNone then .ready else .done, pending := jumpOf x })
                    (x := .loop { r3 with st := if (jumpOf x).isNone then .ready else .done, pending := jumpOf x }) sr3.g hi3 hget3 rfl
                    ⟨k0, k1, k2, k3, k4, k5, k6, _, World.putObj_heap_same (sr3.g.ltL hi3 (by rw [hget3]; simp)), rfl, rfl, b3, b4, b5, b6⟩
                  have st : Stp ρ h w ρ3 _ _ := Stp.trans g.fresh sr3.g.fresh (Stp.trans g.fresh g2.fresh (Stp.trans g.fresh sr1.g.fresh st1 s2) st3) s4
                  have hR : Post K ρ h w (.bool (jumpOf x).isNone) _ (.returned (.bool (jumpOf x).isNone)) _ := ⟨ρ3, _, rfl, .bool _, g4, st⟩
                  cases x with
                  | normal => exact ⟨_, _, hend, hR⟩
                  | exit id => exact ⟨_, _, hend, hR⟩
                  | ret => exact ⟨_, _, hend, hR⟩
              · cases hy
            · cases hy
          · cases hy
        · cases hy
      · cases hy
  · cases hy
theorem stp_apart {ρ ρ' : Map} {h h' : Heap} {w w' : World} {r : Nat} {o : Obj} (s : Stp ρ h w ρ' h' w') (hr : w.heap.size ≤ r) : Stp ρ h w ρ' h' (w'.putObj r o) :=
  ⟨s.ext, s.dom, s.win, s.next, s.vframe, s.dead, by rw [World.putObj_size]; exact s.grow, fun q hq hf => by rw [World.putObj_heap_other (by omega)]; exact s.rframe q hq hf, s.fromN, s.side⟩
theorem leaves_ok {fn : Func} {tmps : Array Value} {ρ ρ' : Map} {h h' : Heap} {w : World} {R : Ending → World → Prop} (kn : K.is ρ w)
    (fin : ∀ w', Good K ρ' h' w' → Stp ρ h w ρ' h' w' → ∃ v, (results fn tmps).run P w' = .ok v w' ∧ R (.returned v) w') :
    ∀ (rs : List Nat) (w' : World), rs.Nodup → (∀ r ∈ rs, w.heap.size ≤ r ∧ w'.heap[r]? = some (.deferred (some [])) ∧ ∀ b i, ρ' b = some i → i.ro = false → i.blk ≠ r) → Good K ρ' h' w' → Stp ρ h w ρ' h' w' →
      LeavesInM (W none) 0 P fn tmps R (rs.map markOf) .returning w' := by
  intro rs
  induction rs with
  | nil => intro w' _ _ g s; exact fin w' g s
  | cons r rs ih =>
    intro w' hnd hall g s
    obtain ⟨h1, h2, h3⟩ := hall r List.mem_cons_self
    obtain ⟨hni, hnd'⟩ := List.nodup_cons.1 hnd
    refine ⟨by simp, .inl ⟨r, w'.putObj r (.deferred none), rfl, run_takeDeferred h2, ih _ hnd' (fun q hq => ?_) (good_apart g (fun b i hb hp => by
      cases hq : h'.get b with
      | none => exact absurd hq hp
      | some o => exact (g.rel _ _ _ hb hq).apart h2) World.putObj_size (fun k hk => World.putObj_heap_other hk) ((stp_apart s h1).known kn)) (stp_apart s h1)⟩⟩
    obtain ⟨g1, g2, g3⟩ := hall q (List.mem_cons_of_mem _ hq)
    exact ⟨g1, by rw [World.putObj_heap_other (fun e => by subst e; exact hni hq)]; exact g2, g3⟩
theorem call_ok (ok : EnvOk K P E) : ∀ n, CallOk K P (callV E n) := by
  intro n
  induction n with
  | zero => exact ⟨fun f args h v h' hc => by simp [callV] at hc, fun f args h v h' hc => by simp [callV] at hc, fun f args h v h' hc => by simp [callV] at hc, fun f args h v h' hc => by simp [callV] at hc, fun f args h v h' hc => by simp [callV] at hc⟩
  | succ n ih =>
    refine ⟨fun f args h v h' hc => ?_, fun f args h v h' hc => ?_, fun f args h v h' hc ρ w args' g win hargs => ?_, fun l args h v h' hy => yld_next ok.row ih hy, fun l args h v h' hy ρ w args' i hi g win hargs => yld_ok ok ih hy hi g win hargs⟩
    · rw [callV_fn] at hc
      split at hc
      · rename_i gx hx; exact (ok.ext _ _ hx _ _ _ _ hc).1
      · split at hc
        · cases hc
        · rename_i fn hf
          have q := ok.fn _ _ hf
          exact ⟨fn.fn, q.fn, q.name, by rw [q.body]; simp⟩
    · rw [callV_fn] at hc
      split at hc
      · rename_i gx hx; exact (ok.ext _ _ hx _ _ _ _ hc).2.1
      · split at hc
        · cases hc
        · rename_i fn hf
          split at hc
          · rename_i s hcode
            obtain ⟨l, hl, he⟩ := Option.map_eq_some_iff.1 hc
            cases he
            exact code_next ok.row ih _ _ _ _ hcode
          · rename_i s hcode
            obtain ⟨l, hl, he⟩ := Option.map_eq_some_iff.1 hc
            cases he
            exact code_next ok.row ih _ _ _ _ hcode
          · cases hc
    · rw [callV_fn] at hc
      split at hc
      · rename_i gx hx; exact (ok.ext _ _ hx _ _ _ _ hc).2.2 ρ w args' g win hargs
      · split at hc
        · cases hc
        · rename_i fn hf
          have q := ok.fn _ _ hf
          have sr : SRel K [] ρ (args ++ List.replicate (fn.fn.ntmps - args.length) undef, h) { tmps := args' ++ Array.replicate (fn.fn.ntmps - args'.size) undef, defers := [] } w := by
            have hl : args.length = args'.size := by rw [hargs.1]; simp
            refine ⟨trel_of ?_, rfl, g⟩
            rw [Array.toList_append, hl]
            refine hargs.append (.of_get (by simp) fun j v v' h1 h2 => ?_)
            rw [List.getElem?_replicate] at h1
            rw [Array.toList_replicate, List.getElem?_replicate] at h2
            split at h1
            · rename_i hlt; rw [if_pos hlt] at h2; cases h1; cases h2; exact undef_rel
            · cases h1
          have fin : ∀ (x : Ex) (s : St), (x = .normal ∨ x = .ret) → codeV E (callV E n) fn.plan n fn.body (args ++ List.replicate (fn.fn.ntmps - args.length) undef, h) = some (x, s) →
              (resultsV E s fn.fn.results.toList).map (fun l => (oneOrTuple l, s.2)) = some (v, h') → Calls P f args' w (Post K ρ h w v h') := by
            intro x s hx hcode hres
            obtain ⟨l, hl, he⟩ := Option.map_eq_some_iff.1 hres
            cases he
            refine (callsIn_W (rd := none) (n := 0)).1 (callsIn_of_wp_marks q.fn q.body trivial ?_)
            refine code_sound (rd := none) (B := w.heap.size) ok.ty ok.meth ok.mixed ok.row ih _ _ _ _ hcode q.code q.plan (.inl rfl) [] ρ _ w sr (.nil (Nat.le_refl _)) win fun D' ρ' a' w' sr' mk' st' => ?_
            have hr : ∀ w2, Good K ρ' s.2 w2 → Stp ρ h w ρ' s.2 w2 → ∃ v', (results fn.fn a'.tmps).run P w2 = .ok v' w2 ∧ Post K ρ h w (oneOrTuple l) s.2 (.returned v') w2 := by
              intro w2 g2 st2
              rw [results_eq, Array.mapM_eq_mapM_toList]
              have sr2 : SRel K D' ρ' s a' w2 := ⟨sr'.t, sr'.d, g2⟩
              obtain ⟨l', rl, run⟩ := results_run (P := P) ok.ty sr2 (f := resF a') (fun t w => rfl)
                (fun x t b v w hb hrun => by simp only [resF, hb, asAddr, Sem.run_bind, Sem.run_pure, Result.andThen_ok, hrun]) _ _ hl
              refine ⟨if h : l'.toArray.size = 1 then l'.toArray[0] else .tuple l'.toArray, ?_, ρ', _, rfl, ?_, g2, st2⟩
              · have run' := run
                simp only [Sem.run_bind, Sem.run_map]
                rw [run]
                rfl
              · cases l with
                | nil => have := rl.nil_inv; subst this; exact undef_rel
                | cons v l =>
                  obtain ⟨v', r', rfl, hv, hr⟩ := rl.cons_inv
                  cases l with
                  | nil => have := hr.nil_inv; subst this; exact hv
                  | cons u l =>
                    obtain ⟨u', r2, rfl, hu, hr2⟩ := hr.cons_inv
                    simp only [oneOrTuple]
                    rw [dif_neg (by simp)]
                    exact VRel.tuple' rl
            obtain ⟨⟨rs, hD, hnd, hall⟩, _⟩ := mk'
            have hlv := leaves_ok (P := P) (fn := fn.fn) (tmps := a'.tmps) g.known hr rs w' hnd hall sr'.g st'
            rw [← hD, ← sr'.d] at hlv
            rcases hx with rfl | rfl
            · exact hlv
            · exact hlv
          split at hc
          · rename_i s hcode; exact fin _ _ (.inl rfl) hcode hc
          · rename_i s hcode; exact fin _ _ (.inr rfl) hcode hc
          · cases hc
end
end Go.Vi
