/- Vi7: operations that only read memory. -/
import Derived.Test.YtdbicjhpgofpiaaGreatDoorVi6
import Derived.Lib.Builder
import Derived.Lib.UnsafeStr
namespace Go.Vi
section
variable {P : Program} {E : Env} {ρ : Map}

theorem add_cell (b o j : Nat) : (Addr.add ⟨b, o, none⟩ j) = ⟨b, o + j, none⟩ := by
  unfold Addr.add; split
  · rename_i h; subst h; rfl
  · rfl
theorem cell_eq {w : World} {b o : Nat} {c : Array Value} {e : TypeId} {fr : Nat × Nat} (h : w.heap[b]? = some (.cells c e fr)) : w.cell? ⟨b, o, none⟩ = c[o]? := by
  simp [World.cell?, h]
theorem rd_real {h : Heap} {w : World} (g : Good ρ h w) {a : Addr} {n : Nat} {l : List Value} {i : Info} (hi : ρ a.block = some i) (hr : rdN h a n = some l) (o' : Nat) (ho : o' = i.base + a.off) :
    ∃ l', VRels ρ l l' ∧ l.length = n ∧ ∀ (j : Nat) (v' : Value), l'[j]? = some v' → w.cell? (Addr.add ⟨i.blk, o', none⟩ j) = some v' := by
  unfold rdN at hr
  split at hr
  · rename_i cs wr opn hsp hget
    split at hr
    · rename_i hle
      cases hr
      obtain ⟨_, c, e, fr, hc, hsz, hb, rel, _⟩ := g.rel _ _ _ hi hget
      refine ⟨(((c.toList.drop i.base).take cs.length).drop a.off).take n, (rel.drop _).take _, by simp; omega, fun j v' hj => ?_⟩
      rw [add_cell, cell_eq hc]
      rw [List.getElem?_take] at hj
      split at hj
      · rw [List.getElem?_drop, List.getElem?_take] at hj
        split at hj
        · rw [List.getElem?_drop] at hj
          rw [← Array.getElem?_toList, ← hj]; congr 1; omega
        · cases hj
      · cases hj
    · cases hr
  · cases hr
theorem load_run (ko : TysOk P E) {h : Heap} {w : World} (g : Good ρ h w) {t : TypeId} {p p' v : Value} (hp : VRel ρ p p') (hl : loadV E t p h = some v) :
    ∃ v', VRel ρ v v' ∧ (Instr.loadAt t p').run P w = .ok v' w := by
  unfold loadV at hl
  replace hl := bind_some.1 hl; obtain ⟨i, hi, hl⟩ := hl
  replace hl := bind_some.1 hl; obtain ⟨a, ha, hl⟩ := hl
  replace hl := bind_some.1 hl; obtain ⟨l, hrd, hl⟩ := hl
  obtain ⟨rfl, hspot⟩ : p = .pointer (some a) ∧ a.spot = none := by
    unfold ptrOf at ha
    split at ha
    · split at ha
      · cases ha; rename_i hs; exact ⟨rfl, by simpa using hs⟩
      · cases ha
    · cases ha
  obtain ⟨j, hj, _, rfl⟩ := ptr_inv hp
  obtain ⟨l', rl, hlen, hcell⟩ := rd_real g hj hrd _ rfl
  by_cases hag : i.agg = true
  · rw [if_pos hag] at hl
    cases hl
    refine ⟨.agg l'.toArray, VRel.agg' rl, ?_⟩
    have := run_loadCells_list (P := P) (w := w) ⟨j.blk, j.base + a.off, none⟩ l' hcell
    have hl' : l'.length = i.size := by rw [← rl.1, hlen]
    rw [hl'] at this
    simp [Instr.loadAt, Instr.sureAddr, loadVar, run_agg (ko _ _ hi), hag, run_size (ko _ _ hi), this]
  · rw [if_neg hag] at hl
    split at hl
    · rename_i h1
      unfold ofCells at hl
      simp only [Bool.false_eq_true, if_false] at hl
      split at hl
      · cases hl
        obtain ⟨v', r', rfl, rv, _⟩ := rl.cons_inv
        refine ⟨v', rv, ?_⟩
        have hc := hcell 0 v' rfl
        rw [add_cell] at hc
        simp at hc
        simp only [Bool.not_eq_true] at hag
        simp [Instr.loadAt, Instr.sureAddr, loadVar, run_agg (ko _ _ hi), hag, hc]
      · cases hl
    · cases hl
theorem unbytes_eq (f : Value → ByteArray → Sem (ForInStep ByteArray)) (hf : ∀ n s w, (f (.int .u8 n) s).run P w = .ok (ForInStep.yield (s.push (UInt8.ofNat n.toNat))) w) :
    ∀ (l : List Value) (b : List UInt8), unbytes l = some b → ∀ (acc : ByteArray) (w : World), (forIn l acc f : Sem ByteArray).run P w = .ok ⟨acc.data ++ b.toArray⟩ w := by
  intro l
  induction l with
  | nil => intro b h acc w; simp [unbytes] at h; subst h; simp
  | cons v l ih =>
    intro b h acc w
    unfold unbytes at h
    cases v <;> simp only [unbyte, reduceCtorEq] at h
    rename_i k n
    cases k <;> simp only [reduceCtorEq] at h
    cases hr : unbytes l with
    | none => rw [hr] at h; cases h
    | some r =>
      rw [hr] at h; cases h
      have := ih r hr (acc.push (UInt8.ofNat n.toNat)) w
      simp only [List.forIn_cons, Sem.run_bind, hf, Result.andThen_ok]
      rw [this]
      congr 2
      simp [ByteArray.push]
theorem same_bytes : ∀ (l l' : List Value) (b : List UInt8), VRels ρ l l' → unbytes l = some b → l' = l := by
  intro l
  induction l with
  | nil => intro l' b hr _; exact hr.nil_inv
  | cons v l ih =>
    intro l' b hr h
    obtain ⟨v', r', rfl, hv, hr2⟩ := hr.cons_inv
    unfold unbytes at h
    cases v <;> simp only [unbyte, reduceCtorEq] at h
    rename_i k n
    rw [hv.int_inv]
    cases k <;> simp only [reduceCtorEq] at h
    cases hq : unbytes l with
    | none => rw [hq] at h; cases h
    | some r => rw [ih r' r hr2 hq]
theorem bytes_run (ko : TysOk P E) {h : Heap} {w : World} (g : Good ρ h w) {s d : TypeId} {i j e : Ty} {et : TypeId} (hi : E.ty s = some i) (hj : E.ty d = some j) (he : E.ty et = some e)
    (hu : i.under = .slice et) (hv : j.under = .string) (hw : e.under = .int .u8) {a : Addr} {len cap : Nat} {x' : Value} {l : List Value} {b : List UInt8}
    (hx : VRel ρ (.slice (some a) len cap) x') (hl : rdN h a len = some l) (hb : unbytes l = some b) : (convert s d x').run P w = .ok (.string (strOf b)) w := by
  cases hx with
  | slice b0 o _ _ q o' cap' hq hlc ho hc hn hr =>
    have ho' : o' = q.base + o ∨ len = 0 := by rcases ho with ho | ho; exact .inl ho; exact .inr ho.1
    have key : ∃ l', l' = l ∧ ∀ (j : Nat) (v' : Value), l'[j]? = some v' → w.cell? (Addr.add ⟨q.blk, o', none⟩ j) = some v' := by
      rcases ho' with ho' | h0
      · obtain ⟨l', rl, _, hcell⟩ := rd_real g (a := ⟨b0, o, none⟩) hq hl o' ho'
        exact ⟨l', same_bytes l l' b rl hb, hcell⟩
      · subst h0
        have : l = [] := by
          unfold rdN at hl
          split at hl
          · split at hl
            · cases hl; simp
            · cases hl
          · cases hl
        subst this
        exact ⟨[], rfl, fun j v' hj => by simp at hj⟩
    obtain ⟨l', rfl, hcell⟩ := key
    have hlen : l'.length = len := by
      unfold rdN at hl
      split at hl
      · split at hl
        · rename_i hle; cases hl; simp only [List.length_take, List.length_drop] at hle ⊢; omega
        · cases hl
      · cases hl
    have hrun := run_loadCells_list (P := P) (w := w) ⟨q.blk, o', none⟩ l' hcell
    rw [hlen] at hrun
    unfold convert
    simp only [Sem.run_bind, run_und (ko _ _ hi), run_und (ko _ _ hj), Result.andThen_ok, hu, hv, run_und (ko _ _ he), hw]
    unfold Conv.bytesToString
    simp only [Sem.run_bind, hrun, Result.andThen_ok, List.forIn_toArray]
    rw [unbytes_eq (P := P) _ ?_ l' b hb ByteArray.empty w]
    · simp; rfl
    · intro n s w; rfl
theorem find_run : ∀ (es : List MapEntry) (es' : List MapEntry) (k : Value) (d : TypeDesc) (j : Nat) (r : Option (Nat × Value)), MRel ρ es es' → plainKey d k = true → findV k es j = some r →
    ∃ r', Instr.findNow d k es' j = some r' ∧ (match r, r' with | none, none => True | some (a, v), some (b, v') => a = b ∧ VRel ρ v v' | _, _ => False) := by
  intro es
  induction es with
  | nil =>
    intro es' k d j r hm hk h
    have : es' = [] := by have := hm.1; cases es' <;> simp_all
    subst this
    simp [findV] at h; subst h
    exact ⟨none, rfl, trivial⟩
  | cons e es ih =>
    intro es' k d j r hm hk h
    cases es' with
    | nil => have := hm.1; simp at this
    | cons e' es' =>
      have h0 := hm.2 0 e e' rfl rfl
      have hm' : MRel ρ es es' := ⟨by simpa using hm.1, fun j a b ha hb => hm.2 (j + 1) a b (by simpa using ha) (by simpa using hb)⟩
      have hkey : ∀ z, keyEq k e.key = some z → Instr.sameNow d k e'.key = some z := by
        intro z hz
        have hr := h0.key
        unfold keyEq at hz
        split at hz
        · rename_i k1 a k2 b hk2
          rw [hk2] at hr
          rw [hr.int_inv]
          split at hz
          · rename_i hkk
            cases hz
            cases d <;> simp [plainKey] at hk
            simp [Instr.sameNow, hkk]
          · cases hz
        · rename_i a b hk2
          rw [hk2] at hr
          rw [hr.string_inv]
          cases hz
          cases d <;> simp [plainKey] at hk
          simp [Instr.sameNow, str_beq]
        · cases hz
      simp only [findV] at h
      split at h
      · rename_i hz
        cases h
        exact ⟨some (j, e'.val), by simp only [Instr.findNow, hkey _ hz], rfl, h0.val⟩
      · rename_i hz
        obtain ⟨r', hr', hrel⟩ := ih es' k d (j + 1) r hm' hk h
        exact ⟨r', by simp only [Instr.findNow, hkey _ hz]; exact hr', hrel⟩
      · cases h
theorem check_run {b : Bool} {t : TypeId} {i : Ty} (k : TyOk P t i) {v : Value} (hk : plainKey i.under v = true) (w : World) : (Instr.checkKey b 10000 t v).run P w = .ok () w := by
  unfold Instr.checkKey
  simp only [Sem.run_bind, run_und k, Result.andThen_ok]
  cases hu : i.under <;> rw [hu] at hk <;> cases v <;> simp [plainKey] at hk <;> rfl
theorem key_self {d : TypeDesc} {v v' : Value} (hk : plainKey d v = true) (h : VRel ρ v v') : v' = v := by
  cases d <;> cases v <;> simp [plainKey] at hk
  · exact h.int_inv
  · exact h.string_inv
theorem mapOf_run {h : Heap} {w : World} (g : Good ρ h w) {x x' : Value} {es : List MapEntry} {c : Nat} (hx : VRel ρ x x') (hm : mapOf h x = some (es, c)) :
    ∃ b i, ∃ es' : Array MapEntry, x = .map (some b) ∧ ρ b = some i ∧ h.get b = some (.map es c) ∧ x' = .map (some i.blk) ∧ w.heap[i.blk]? = some (.map es' c) ∧ MRel ρ es es'.toList := by
  unfold mapOf at hm
  split at hm
  · split at hm
    · rename_i r es0 c0 hget
      cases hm
      cases hx with
      | map b i hb =>
        obtain ⟨es', he, hr⟩ := g.rel _ _ _ hb hget
        exact ⟨_, i, es', rfl, hb, hget, rfl, he, hr⟩
    · cases hm
  · cases hm
theorem run_getObj_map {w : World} {r c : Nat} {es : Array MapEntry} (h : w.heap[r]? = some (.map es c)) : (getObj r).run P w = .ok (.map es c) w := by
  simp [getObj, Sem.run, h]
theorem slice_addr {b o len cap l h m m' size : Nat} {i : Info} {o' cap' : Nat} (hq : ρ b = some i) (ho : o' = i.base + o ∨ (len = 0 ∧ cap = 0 ∧ i.opn ≠ none ∧ i.base ≤ o'))
    (hr : ∀ z, i.opn = some z → o' + cap' * z.1 ≤ i.tot) (hz : ∀ z, i.opn = some z → z.1 = size)
    (hlh : l ≤ h) (hhm : h ≤ m) (hm : m ≤ cap) (hmm : m ≤ m') (hm' : m' ≤ cap') (hcl : i.opn = none → m' = m) :
    VRel ρ (.slice (some (if m = l then ⟨b, o, none⟩ else Addr.add ⟨b, o, none⟩ (l * size))) (h - l) (m - l))
      (.slice (some (if m' = l then ⟨i.blk, o', none⟩ else Addr.add ⟨i.blk, o', none⟩ (l * size))) (h - l) (m' - l)) := by
  have e1 : (if m = l then (⟨b, o, none⟩ : Addr) else Addr.add ⟨b, o, none⟩ (l * size)) = ⟨b, if m = l then o else o + l * size, none⟩ := by
    split
    · rfl
    · rw [add_cell]
  have e2 : (if m' = l then (⟨i.blk, o', none⟩ : Addr) else Addr.add ⟨i.blk, o', none⟩ (l * size)) = ⟨i.blk, if m' = l then o' else o' + l * size, none⟩ := by
    split
    · rfl
    · rw [add_cell]
  rw [e1, e2]
  refine .slice b _ _ _ i _ _ hq (by omega) ?_ (by omega) (fun h => by rw [hcl h]) (fun z hz' => ?_)
  · by_cases hml : m = l
    · cases ho' : i.opn with
      | none =>
        have := hcl ho'
        left
        rcases ho with ho | ho
        · simp [hml, this, ho]
        · exact absurd ho' ho.2.2.1
      | some z =>
        right
        refine ⟨by omega, by omega, by simp, ?_⟩
        split <;> (rcases ho with ho | ho <;> omega)
    · rcases ho with ho | ho
      · left
        rw [if_neg hml, if_neg (by omega)]; omega
      · omega
  · have hz2 := hz z hz'
    have hr2 := hr z hz'
    subst hz2
    split
    · rename_i h; subst h
      have : (m' - m') * z.1 = 0 := by simp
      omega
    · have e : l * z.1 + (m' - l) * z.1 = m' * z.1 := by rw [← Nat.add_mul]; congr 1; omega
      have := Nat.mul_le_mul_right z.1 hm'
      omega
theorem bounds_of {isS : Bool} {len cap cap' : Nat} {lo hi mx lo' hi' mx' : Option Value} {l h m : Nat} (hlc : len ≤ cap) (hc : cap ≤ cap') (rl : ORelV ρ lo lo') (rh : ORelV ρ hi hi') (rm : ORelV ρ mx mx')
    (e : boundsV len cap lo hi mx = some (l, h, m)) :
    ∃ m', l ≤ h ∧ h ≤ m ∧ m ≤ cap ∧ m ≤ m' ∧ m' ≤ cap' ∧ (cap' = cap → m' = m) ∧ ∀ w, (Instr.sliceBounds isS len cap' lo' hi' mx').run P w = .ok (l, h, m') w := by
  obtain ⟨m', h1, h2, h3, h4, h5, h6, h7, h8, run⟩ := bounds_run (P := P) (isS := isS) hc rl rh rm e
  refine ⟨m', h1, ?_, h4, h5, h6, ?_, run⟩
  · cases hhi : hi with
    | some v => exact h2 (by rw [hhi]; simp)
    | none =>
      have e1 := h3 hhi
      cases hmx : mx with
      | none => have := (h8 hmx).1; omega
      | some v =>
        subst hhi; subst hmx
        unfold boundsV hiB at e
        simp at e
  · intro hcc
    cases hmx : mx with
    | none => have := h8 hmx; omega
    | some v => exact h7 (by rw [hmx]; simp)
theorem okSize_info {h : Heap} {w : World} (g : Good ρ h w) {b size : Nat} {i : Info} (hi : ρ b = some i) (hk : okSize h b size = true) : ∀ z, i.opn = some z → z.1 = size := by
  intro z hz
  unfold okSize at hk
  cases hg : h.get b with
  | none => rw [hg] at hk; simp at hk
  | some o =>
    rw [hg] at hk
    have hr := g.rel _ _ _ hi hg
    cases o with
    | map es c => simp at hk
    | loop r => simp at hk
    | sit s p => simp at hk
    | mit m a b c => simp at hk
    | chan c b => simp at hk
    | cells cs wr opn =>
      have := hr.1
      rw [hz] at this
      subst this
      simpa using hk
theorem closed_info {h : Heap} {w : World} (g : Good ρ h w) {b : Nat} {i : Info} (hi : ρ b = some i) (hk : closed h b = true) : i.opn = none := by
  unfold closed at hk
  cases hg : h.get b with
  | none => rw [hg] at hk; simp at hk
  | some o =>
    rw [hg] at hk
    have hr := g.rel _ _ _ hi hg
    cases o with
    | map es c => simp at hk
    | loop r => simp at hk
    | sit s p => simp at hk
    | mit m a b c => simp at hk
    | chan c b => simp at hk
    | cells cs wr opn =>
      have := hr.1
      cases opn with
      | none => exact this.symm
      | some z => simp at hk
theorem sliceS_run (ko : TysOk P E) {h : Heap} {w : World} (g : Good ρ h w) {t : TypeId} {x x' : Value} {lo hi mx lo' hi' mx' : Option Value} {v : Value} (hx : VRel ρ x x') (rl : ORelV ρ lo lo') (rh : ORelV ρ hi hi') (rm : ORelV ρ mx mx')
    (hs : sliceS E t x lo hi mx h = some v) : ∃ v', VRel ρ v v' ∧ (Instr.sliceAt t x' lo' hi' mx').run P w = .ok v' w := by
  unfold sliceS at hs
  replace hs := bind_some.1 hs; obtain ⟨i, hi0, hs⟩ := hs
  split at hs
  · rename_i elem a len cap hu
    replace hs := bind_some.1 hs; obtain ⟨e, he, hs⟩ := hs
    replace hs := bind_some.1 hs; obtain ⟨⟨l, hh, m⟩, hb, hs⟩ := hs
    simp only at hs
    split at hs
    · cases hs
    · rename_i hsz
      cases a with
      | none =>
        simp only at hs
        split at hs
        · rename_i hml
          cases hs
          cases hx
          obtain ⟨m', h1, h2, h3, h4, h5, h6, run⟩ := bounds_of (P := P) (isS := true) (Nat.le_refl 0) (Nat.le_refl 0) rl rh rm hb
          have : l = 0 ∧ hh = 0 ∧ m = 0 ∧ m' = 0 := by omega
          obtain ⟨rfl, rfl, rfl, rfl⟩ := this
          exact ⟨_, .slice0, by simp [Instr.sliceAt, Instr.slice, run_und (ko _ _ hi0), hu, run, run_size (ko _ _ he)]⟩
        · cases hs
      | some a =>
        simp only at hs
        split at hs
        · rename_i hok
          cases hs
          cases hx with
          | slice b o _ _ q o' cap' hq hlc ho hc hn hr =>
            obtain ⟨m', h1, h2, h3, h4, h5, h6, run⟩ := bounds_of (P := P) (isS := true) hlc hc rl rh rm hb
            refine ⟨_, slice_addr (size := e.size) hq ho hr (okSize_info g hq hok) h1 h2 h3 h4 h5 (fun hcl => h6 (hn hcl)), ?_⟩
            simp only [Instr.sliceAt, Instr.slice, Sem.run_bind, run_und (ko _ _ hi0), hu, run, run_size (ko _ _ he), Result.andThen_ok, Sem.run_pure]
            congr 2
            split <;> rfl
        · cases hs
  · rename_i n elem a hu
    replace hs := bind_some.1 hs; obtain ⟨e, he, hs⟩ := hs
    replace hs := bind_some.1 hs; obtain ⟨⟨l, hh, m⟩, hb, hs⟩ := hs
    simp only at hs
    split at hs
    · rename_i hok
      cases hs
      obtain ⟨q, hq, hsp, rfl⟩ := ptr_inv hx
      obtain ⟨b, o, sp⟩ := a
      simp only at hsp hq; subst hsp
      have hcl := closed_info g hq hok.2
      obtain ⟨m', h1, h2, h3, h4, h5, h6, run⟩ := bounds_of (P := P) (isS := false) (Nat.le_refl n) (Nat.le_refl n) rl rh rm hb
      have hm := h6 rfl
      subst hm
      refine ⟨_, slice_addr (len := n) (size := e.size) (cap' := n) hq (.inl rfl) (fun z hz => by rw [hcl] at hz; cases hz) (fun z hz => by rw [hcl] at hz; cases hz) h1 h2 h3 h4 h5 (fun _ => rfl), ?_⟩
      simp only [Instr.sliceAt, Instr.sureAddr, Sem.run_bind, run_und (ko _ _ hi0), hu, run, run_size (ko _ _ he), Result.andThen_ok, Sem.run_pure]
    · cases hs
  · rename_i arr a hu
    replace hs := bind_some.1 hs; obtain ⟨j, hj, hs⟩ := hs
    split at hs
    · rename_i n elem hv
      replace hs := bind_some.1 hs; obtain ⟨e, he, hs⟩ := hs
      replace hs := bind_some.1 hs; obtain ⟨⟨l, hh, m⟩, hb, hs⟩ := hs
      simp only at hs
      split at hs
      · rename_i hok
        cases hs
        obtain ⟨q, hq, hsp, rfl⟩ := ptr_inv hx
        obtain ⟨b, o, sp⟩ := a
        simp only at hsp hq; subst hsp
        have hcl := closed_info g hq hok.2
        obtain ⟨m', h1, h2, h3, h4, h5, h6, run⟩ := bounds_of (P := P) (isS := false) (Nat.le_refl n) (Nat.le_refl n) rl rh rm hb
        have hm := h6 rfl
        subst hm
        refine ⟨_, slice_addr (len := n) (size := e.size) (cap' := n) hq (.inl rfl) (fun z hz => by rw [hcl] at hz; cases hz) (fun z hz => by rw [hcl] at hz; cases hz) h1 h2 h3 h4 h5 (fun _ => rfl), ?_⟩
        simp only [Instr.sliceAt, Instr.slice, asAddr, Sem.run_bind, run_und (ko _ _ hi0), hu, run_und (ko _ _ hj), hv, run, run_size (ko _ _ he), Result.andThen_ok, Sem.run_pure]
      · cases hs
    · cases hs
  · cases hs

theorem lookup_run (ko : TysOk P E) {h : Heap} {w : World} (g : Good ρ h w) {t : TypeId} {x x' ix ix' : Value} {ok : Bool} {v : Value} (hx : VRel ρ x x') (hix : VRel ρ ix ix')
    (hl : lookupV E t x ix ok h = some v) : ∃ v', VRel ρ v v' ∧ (Instr.lookup t x' ix' ok).run P w = .ok v' w := by
  unfold lookupV at hl
  replace hl := bind_some.1 hl; obtain ⟨i, hi, hl⟩ := hl
  split at hl
  · rename_i key elem hu
    replace hl := bind_some.1 hl; obtain ⟨k, hk, hl⟩ := hl
    replace hl := bind_some.1 hl; obtain ⟨e, he, hl⟩ := hl
    split at hl
    · cases hl
    · rename_i hpk
      have hpk : plainKey k.under ix = true := by simpa using hpk
      replace hl := bind_some.1 hl; obtain ⟨es, hes, hl⟩ := hl
      have hixe : ix' = ix := key_self hpk hix
      subst hixe
      have hent : ∃ es' : Array MapEntry, MRel ρ es es'.toList ∧ ((x' = .map none ∧ es' = #[]) ∨ ∃ r c, x' = .map (some r) ∧ w.heap[r]? = some (.map es' c)) := by
        unfold entriesOf at hes
        split at hes
        · cases hes; cases hx
          exact ⟨#[], ⟨rfl, fun j a b ha => by simp at ha⟩, .inl ⟨rfl, rfl⟩⟩
        · obtain ⟨⟨es0, c⟩, hm, rfl⟩ := Option.map_eq_some_iff.1 hes
          obtain ⟨b, q, es', rfl, hb, hget, rfl, hw, hr⟩ := mapOf_run g hx hm
          exact ⟨es', hr, .inr ⟨_, c, rfl, hw⟩⟩
      obtain ⟨es', hr, hrun⟩ := hent
      have main : ∀ r, findV ix' es 0 = some r → ∃ r', Instr.findNow k.under ix' es'.toList 0 = some r' ∧ (match r, r' with | none, none => True | some (a, v), some (b, v') => a = b ∧ VRel ρ v v' | _, _ => False) :=
        fun r hf => find_run _ _ _ _ _ _ hr hpk hf
      split at hl
      · rename_i j u hf
        cases hl
        obtain ⟨r', hr', hrel⟩ := main _ hf
        cases r' with
        | none => exact hrel.elim
        | some p =>
          obtain ⟨j', u'⟩ := p
          obtain ⟨rfl, hu'⟩ := hrel
          refine ⟨if ok then .tuple #[u', .bool true] else u', by cases ok; exact hu'; exact tuple2 hu', ?_⟩
          unfold Instr.lookup
          rcases hrun with ⟨rfl, rfl⟩ | ⟨r, c, rfl, hw⟩
          · simp [Instr.findNow] at hr'
          · simp [run_und (ko _ _ hi), hu, run_getObj_map hw, check_run (ko _ _ hk) hpk, Instr.findKey, run_und (ko _ _ hk), hr']
      · rename_i hf
        obtain ⟨z, hz, rfl⟩ := Option.map_eq_some_iff.1 hl
        obtain ⟨r', hr', hrel⟩ := main _ hf
        cases r' with
        | some p => exact hrel.elim
        | none =>
          have hzr := zero_rel (ρ := ρ) (ko _ _ he) hz
          refine ⟨if ok then .tuple #[z, .bool false] else z, by cases ok; exact hzr; exact tuple2 hzr, ?_⟩
          unfold Instr.lookup
          rcases hrun with ⟨rfl, rfl⟩ | ⟨r, c, rfl, hw⟩
          · simp [run_und (ko _ _ hi), hu, check_run (ko _ _ hk) hpk, Instr.findKey, run_und (ko _ _ hk), Instr.findNow, run_zero (ko _ _ he) hz]
          · simp [run_und (ko _ _ hi), hu, run_getObj_map hw, check_run (ko _ _ hk) hpk, Instr.findKey, run_und (ko _ _ hk), hr', run_zero (ko _ _ he) hz]
      · cases hl
  · cases hl

theorem seen_run (ko : TysOk P E) {h : Heap} {w : World} (g : Good ρ h w) {e : TypeId} {x x' v : Value} (hx : VRel ρ x x') (hv : seenV E e x h = some v) :
    v = x ∧ ∃ (a : Addr) (cells : Nat) (j : TypeInfo), x' = .pointer (some a) ∧ P.info? e = some j ∧ j.size ≠ 0 ∧ w.shape? a.block = some (e, cells) ∧ a.off < cells ∧ liesAt P P.depth e (cells / P.cellsOf e) a.off e 1 = true := by
  unfold seenV at hv
  split at hv
  · rename_i b
    replace hv := bind_some.1 hv; obtain ⟨i, hi, hv⟩ := hv
    split at hv
    · rename_i htag
      split at hv
      · rename_i cs wr z hget
        split at hv
        · rename_i hz
          obtain ⟨rfl, hl, h0⟩ := hz
          cases hv
          refine ⟨rfl, ?_⟩
          obtain ⟨q, hq, _, rfl⟩ := ptr_inv hx
          have hq : ρ b = some q := hq
          obtain ⟨h1, c, el, fr, hc, hsz, hb, rel, hfz, hty⟩ := g.rel _ _ _ hq hget
          obtain ⟨hel, h3⟩ := hty _ rfl
          have hel : e = el := hel.symm
          subst hel
          obtain ⟨hbase, htot⟩ := h3 rfl
          have kt := ko _ _ hi
          obtain ⟨j, hj, hjs, _⟩ := kt.info
          have hcell : P.cellsOf e = i.size := by unfold Program.cellsOf; rw [hj]; simpa using hjs
          have hc1 : c.size = i.size := by omega
          have hpos : 0 < i.size := Nat.pos_of_ne_zero h0
          refine ⟨_, c.size, j, rfl, hj, by rw [hjs]; exact h0, by unfold World.shape?; rw [hc], by show q.base + 0 < c.size; omega, ?_⟩
          show liesAt P P.depth e (c.size / P.cellsOf e) (q.base + 0) e 1 = true
          rw [hcell, hc1, Nat.div_self hpos, hbase]
          exact kt.tag htag
        · cases hv
      · cases hv
    · cases hv
  · cases hv

/-- an operation's run at a world, that gives a value and leaves the world alone. -/
def OpReads (P : Program) (ρ : Map) (ev' : Operand → Value) (o : Oper) (v : Value) (w : World) : Prop := ∃ v', VRel ρ v v' ∧ (execOp ev' o).run P w = .ok (.value v') w
theorem OpReads.of {ev' : Operand → Value} {o : Oper} {v : Value} {w : World} {s : Sem Value} (h : ∃ v', VRel ρ v v' ∧ s.run P w = .ok v' w) (e : execOp ev' o = (do pure (.value (← s)))) : OpReads P ρ ev' o v w := by
  obtain ⟨v', hv, run⟩ := h
  exact ⟨v', hv, by rw [e]; simp [run]⟩
theorem read_sound (ko : TysOk P E) {h : Heap} {w : World} (g : Good ρ h w) {ev ev' : Operand → Value} (he : ∀ x, VRel ρ (ev x) (ev' x)) {o : Oper} {v : Value} (hr : readV E ev h o = some v) : OpReads P ρ ev' o v w := by
  obtain ⟨dst, op, ty, pos, after, guard⟩ := o
  unfold readV at hr
  cases op <;> simp only [reduceCtorEq] at hr
  case load t a => exact .of (load_run ko g (he a) hr) rfl
  case slice t x lo hi mx => exact .of (sliceS_run ko g (he x) (orel_map he lo) (orel_map he hi) (orel_map he mx) hr) rfl
  case lookup t x ix ok => exact .of (lookup_run ko g (he x) (he ix) hr) rfl
  case convert s d x =>
    split at hr
    · cases hr
    replace hr := bind_some.1 hr; obtain ⟨i, hi, hr⟩ := hr
    replace hr := bind_some.1 hr; obtain ⟨j, hj, hr⟩ := hr
    split at hr
    · rename_i et hu hv
      replace hr := bind_some.1 hr; obtain ⟨e, he', hr⟩ := hr
      split at hr
      · rename_i hw
        have hx := he x
        split at hr
        · rename_i hxv
          cases hr
          rw [hxv] at hx
          refine .of (s := convert s d (ev' x)) ⟨_, .string _, ?_⟩ rfl
          cases hx' : ev' x <;> rw [hx'] at hx <;> cases hx
          simp [convert, run_und (ko _ _ hi), run_und (ko _ _ hj), hu, hv, run_und (ko _ _ he'), hw, Conv.bytesToString]
        · rename_i a len cap hxv
          rw [hxv] at hx
          replace hr := bind_some.1 hr; obtain ⟨l, hl, hr⟩ := hr
          replace hr := bind_some.1 hr; obtain ⟨b, hb, hr⟩ := hr
          cases hr
          exact .of (s := convert s d (ev' x)) ⟨_, .string _, bytes_run ko g hi hj he' hu hv hw hx hl hb⟩ rfl
        · cases hr
      · cases hr
    · rename_i e hu hv
      obtain ⟨rfl, a, cells, jj, hx', hj', hs', hsh, hoff, _⟩ := seen_run ko g (he x) hr
      have hx := he x
      rw [hx'] at hx
      exact .of (s := convert s d (ev' x)) ⟨_, hx, by rw [hx']; exact Lib.run_to_unsafe w a (by rw [(ko _ _ hi).under, hu]) (by rw [(ko _ _ hj).under, hv]) hj' hs' hsh hoff⟩ rfl
    · rename_i e hu hv
      obtain ⟨rfl, a, cells, jj, hx', hj', hs', hsh, _, hlies⟩ := seen_run ko g (he x) hr
      have hx := he x
      rw [hx'] at hx
      exact .of (s := convert s d (ev' x)) ⟨_, hx, by rw [hx']; exact Lib.run_from_unsafe w a (by rw [(ko _ _ hi).under, hu]) (by rw [(ko _ _ hj).under, hv]) hj' hsh hlies⟩ rfl
    · cases hr
  case call c =>
    obtain ⟨callee, args, ats⟩ := c
    simp only at hr
    cases callee with
    | value f => simp at hr
    | invoke r m => simp at hr
    | builtin b =>
      cases b <;> simp only [reduceCtorEq] at hr
      case len =>
        split at hr
        · rename_i t x ht hx0
          replace hr := bind_some.1 hr; obtain ⟨i, hi, hr⟩ := hr
          have hx := he x
          have ha : ats[0]? = some t := ht
          have hb : (args.map ev')[0]? = some (ev' x) := by simp [hx0]
          split at hr
          · rename_i k e hu
            replace hr := bind_some.1 hr; obtain ⟨⟨es, c⟩, hm, hr⟩ := hr
            cases hr
            obtain ⟨b, q, es', _, hb', hget, hx', hw, hrel⟩ := mapOf_run g hx hm
            refine .of (s := Builtin.len_ ats ty (args.map ev')) ⟨_, .int _ _, ?_⟩ rfl
            have : es.length = es'.size := by rw [hrel.1]; simp
            simp [Builtin.len_, ha, hb, run_und (ko _ _ hi), hu, hx', run_getObj_map hw, goInt, this]
          · rename_i k e hu
            unfold chanLen at hr
            split at hr
            · rename_i r0 hxv
              rw [hxv] at hx
              split at hr
              · rename_i cp buf hget
                cases hr
                generalize hy : ev' x = y at hx hb
                cases hx with
                | chan _ q hq =>
                  obtain ⟨buf', sn, rc, hw, hrel⟩ := g.rel _ _ _ hq hget
                  refine .of (s := Builtin.len_ ats ty (args.map ev')) ⟨_, .int _ _, ?_⟩ rfl
                  have hsz : buf'.size = buf.length := by rw [hrel.1]; simp
                  have hgo : (getObj q.blk).run P w = .ok (.chan cp buf' false sn rc false) w := by simp only [getObj, Sem.run, hw]
                  simp [Builtin.len_, ha, run_und (ko _ _ hi), hu, hx0, hy, hgo, goInt, hsz]
              · cases hr
            · cases hr
          · cases hr
        · cases hr
      case cap =>
        split at hr
        · rename_i t x ht hx0
          replace hr := bind_some.1 hr; obtain ⟨i, hi, hr⟩ := hr
          have hx := he x
          have ha : ats[0]? = some t := ht
          have hb : (args.map ev')[0]? = some (ev' x) := by simp [hx0]
          split at hr
          · rename_i e n c hu hv
            cases hr
            rw [hv] at hx
            refine .of (s := Builtin.cap_ ats ty (args.map ev')) ⟨_, .int _ _, ?_⟩ rfl
            cases hx' : ev' x <;> rw [hx'] at hx <;> cases hx
            simp [Builtin.cap_, ha, hb, run_und (ko _ _ hi), hu, hx', goInt]
          · rename_i e a n c hu hv
            rw [hv] at hx
            split at hr
            · rename_i cs wr hget
              cases hr
              refine .of (s := Builtin.cap_ ats ty (args.map ev')) ⟨_, .int _ _, ?_⟩ rfl
              generalize hy : ev' x = y at hx hb
              cases hx with
              | slice b o _ _ q o' cap' hq hlc ho hc hn hroom =>
                have := hn (closed_info g hq (by unfold closed; rw [hget]))
                subst this
                simp [Builtin.cap_, ha, run_und (ko _ _ hi), hu, goInt, hx0, hy]
            · cases hr
          · cases hr
        · cases hr
end
end Go.Vi
