/- Tp: operations and lines, plainly: how an operation is printed, and that a parsed line is printed to itself. No program in sight. -/
import Derived.Test.YtkloflhiipebmaaDoorTm
import Derived.Test.YtkloflhiipebmaaDoorK1
namespace Go.Tk
open Go.Proofs.YtkloflhiipebmaaDoor.C (sign hexL hexS)
deriving instance DecidableEq for TOp
open Go.Lib
def wordT (o : TOp) (want : UInt8) : List UInt8 :=
  if want.toNat = 105 then o.image
  else if want.toNat = 118 then if o.snap = [] then o.image else o.image ++ 64 :: o.snap
  else if want.toNat = 115 then o.image ++ 64 :: o.snap
  else if want.toNat = 112 then o.parent ++ 64 :: o.snap
  else if want.toNat = 50 then if o.snap2 = [] then [45] else o.snap2
  else if want.toNat = 97 then itoa o.at_
  else if want.toNat = 108 then itoa o.len
  else if want.toNat = 122 then itoa o.size
  else if want.toNat = 111 then itoa o.object
  else if want.toNat = 100 then hexS o.data
  else if o.on then [111, 110] else [111, 102, 102]
def kindOf (k : Int) : List (List UInt8 × Int × List UInt8) → Option (List UInt8 × Int × List UInt8)
  | [] => none
  | v :: r => if v.2.1 = k then some v else kindOf k r
def lineT (c : Int) (o : TOp) (v : List UInt8 × Int × List UInt8) : List UInt8 := join (itoa c :: v.1 :: v.2.2.map (wordT o)) [32]
def printT (c : Int) (o : TOp) : Option (List UInt8) := match kindOf o.kind verbsT with
  | some v => if parseT (lineT c o v) = some (c, o) then some (lineT c o v) else none
  | none => none
theorem dig_sign {b : UInt8} {x : Nat} (h : digOf b = some x) : x < 16 ∧ sign x = b := by
  unfold digOf at h
  have hb := b.toNat_lt
  split at h
  · rename_i q
    cases h
    refine ⟨by omega, ?_⟩
    apply UInt8.toNat_inj.1
    obtain ⟨n, hn⟩ : ∃ n, b.toNat = 48 + n := ⟨b.toNat - 48, by omega⟩
    rw [hn] at q ⊢
    rw [show 48 + n - 48 = n from by omega]
    have : n < 10 := by omega
    rcases n with _ | _ | _ | _ | _ | _ | _ | _ | _ | _ | n <;> first | rfl | omega
  split at h
  · rename_i q
    cases h
    refine ⟨by omega, ?_⟩
    apply UInt8.toNat_inj.1
    obtain ⟨n, hn⟩ : ∃ n, b.toNat = 97 + n := ⟨b.toNat - 97, by omega⟩
    rw [hn] at q ⊢
    rw [show 97 + n - 87 = 10 + n from by omega]
    have : n < 6 := by omega
    rcases n with _ | _ | _ | _ | _ | _ | n <;> first | rfl | omega
  cases h
theorem bytes_hex : ∀ (l d : List UInt8), bytesL l = some d → hexL d = l
  | [], d, h => by cases h; rfl
  | [_], d, h => by cases h
  | a :: b :: r, d, h => by
    unfold bytesL at h
    split at h
    · rename_i x y t hx hy ht
      cases h
      obtain ⟨x1, x2⟩ := dig_sign hx
      obtain ⟨y1, y2⟩ := dig_sign hy
      have ih := bytes_hex r t ht
      have hn : (UInt8.ofNat (16 * x + y)).toNat = 16 * x + y := by rw [UInt8.toNat_ofNat']; omega
      show sign ((UInt8.ofNat (16 * x + y)).toNat / 16) :: sign ((UInt8.ofNat (16 * x + y)).toNat % 16) :: hexL t = _
      rw [hn, ih, show (16 * x + y) / 16 = x from by omega, show (16 * x + y) % 16 = y from by omega, x2, y2]
    · cases h
theorem data_hex {l d : List UInt8} (h : dataOf l = some d) : hexS d = l := by
  unfold dataOf at h
  split at h
  · rename_i q; cases h; rw [q]; rfl
  split at h
  · cases h
  rename_i q
  have := bytes_hex l d h
  unfold hexS
  cases d with
  | nil => exact absurd this.symm q
  | cons a d => exact this
theorem named_ne {y : List UInt8} (h : namedB y = true) : y ≠ [] := by
  rintro rfl
  revert h
  decide
theorem num_itoa {y : List UInt8} (h : numB y = true) : itoa (numV y) = y := by
  unfold numB at h
  unfold numV
  rcases hq : atoiAll y with v | _ | _
  · rw [hq] at h; exact eq_of_beq h
  · rw [hq] at h; cases h
  · rw [hq] at h; cases h
theorem take_i {o o' : TOp} {y : List UInt8} (h : takeT o 105 y = some o') : o' = { o with image := y } := by
  have h : (if namedB y then some { o with image := y } else none) = some o' := h
  split at h
  · cases h; rfl
  · cases h
theorem pair_is {y : List UInt8} (h : pairB y = true) : (twoOf y).1 ++ 64 :: (twoOf y).2.1 = y ∧ (twoOf y).2.1 ≠ [] := by
  unfold pairB at h
  simp only [Bool.and_eq_true] at h
  exact ⟨(two_join y h.1.1).symm, named_ne h.2⟩
theorem take_v {o o' : TOp} {y : List UInt8} (h : takeT o 118 y = some o') : ∃ a b, o' = { o with image := a, snap := b } ∧ (if b = [] then a else a ++ 64 :: b) = y := by
  have h : (if pairB y then some { o with image := (twoOf y).1, snap := (twoOf y).2.1 } else if namedB y then some { o with image := y, snap := [] } else none) = some o' := h
  split at h
  · rename_i q
    cases h
    obtain ⟨q1, q2⟩ := pair_is q
    exact ⟨_, _, rfl, by rw [if_neg q2, q1]⟩
  split at h
  · cases h
    exact ⟨_, _, rfl, by rw [if_pos rfl]⟩
  · cases h
theorem take_s {o o' : TOp} {y : List UInt8} (h : takeT o 115 y = some o') : ∃ a b, o' = { o with image := a, snap := b } ∧ a ++ 64 :: b = y := by
  have h : (if pairB y then some { o with image := (twoOf y).1, snap := (twoOf y).2.1 } else none) = some o' := h
  split at h
  · rename_i q
    cases h
    exact ⟨_, _, rfl, (pair_is q).1⟩
  · cases h
theorem take_p {o o' : TOp} {y : List UInt8} (h : takeT o 112 y = some o') : ∃ a b, o' = { o with parent := a, snap := b } ∧ a ++ 64 :: b = y := by
  have h : (if pairB y then some { o with parent := (twoOf y).1, snap := (twoOf y).2.1 } else none) = some o' := h
  split at h
  · rename_i q
    cases h
    exact ⟨_, _, rfl, (pair_is q).1⟩
  · cases h
theorem take_2 {o o' : TOp} {y : List UInt8} (h : takeT o 50 y = some o') : ∃ b, o' = { o with snap2 := b } ∧ (if b = [] then [45] else b) = y := by
  have h : (if y = [45] then some { o with snap2 := [] } else if namedB y then some { o with snap2 := y } else none) = some o' := h
  split at h
  · rename_i q; cases h; exact ⟨_, rfl, by rw [if_pos rfl, q]⟩
  split at h
  · rename_i q; cases h; exact ⟨_, rfl, by rw [if_neg (named_ne q)]⟩
  · cases h
theorem take_d {o o' : TOp} {y : List UInt8} (h : takeT o 100 y = some o') : ∃ d, o' = { o with data := d } ∧ hexS d = y := by
  have h : (match dataOf y with | some d => some { o with data := d } | none => none) = some o' := h
  split at h
  · rename_i d q; cases h; exact ⟨d, rfl, data_hex q⟩
  · cases h
theorem take_m {o o' : TOp} {y : List UInt8} (h : takeT o 109 y = some o') : ∃ b : Bool, o' = { o with on := b } ∧ (if b then ([111, 110] : List UInt8) else [111, 102, 102]) = y := by
  have h : (if y = [111, 110] then some { o with on := true } else if y = [111, 102, 102] then some { o with on := false } else none) = some o' := h
  split at h
  · rename_i q; cases h; exact ⟨true, rfl, q.symm⟩
  split at h
  · rename_i q; cases h; exact ⟨false, rfl, q.symm⟩
  · cases h
theorem take_a {o o' : TOp} {y : List UInt8} (h : takeT o 97 y = some o') : ∃ n, o' = { o with at_ := n } ∧ itoa n = y := by
  have h : (if numB y then some { o with at_ := numV y } else none) = some o' := h
  split at h
  · rename_i q; cases h; exact ⟨_, rfl, num_itoa q⟩
  · cases h
theorem take_l {o o' : TOp} {y : List UInt8} (h : takeT o 108 y = some o') : ∃ n, o' = { o with len := n } ∧ itoa n = y := by
  have h : (if numB y then some { o with len := numV y } else none) = some o' := h
  split at h
  · rename_i q; cases h; exact ⟨_, rfl, num_itoa q⟩
  · cases h
theorem take_z {o o' : TOp} {y : List UInt8} (h : takeT o 122 y = some o') : ∃ n, o' = { o with size := n } ∧ itoa n = y := by
  have h : (if numB y then some { o with size := numV y } else none) = some o' := h
  split at h
  · rename_i q; cases h; exact ⟨_, rfl, num_itoa q⟩
  · cases h
theorem take_o {o o' : TOp} {y : List UInt8} (h : takeT o 111 y = some o') : ∃ n, o' = { o with object := n } ∧ itoa n = y := by
  have h : (if numB y then some { o with object := numV y } else none) = some o' := h
  split at h
  · rename_i q; cases h; exact ⟨_, rfl, num_itoa q⟩
  · cases h
def Back (wants : List UInt8) : Prop := ∀ (o o' : TOp) (ws : List (List UInt8)), ws.length = wants.length → takesT wants ws o = some o' → wants.map (wordT o') = ws ∧ o'.kind = o.kind
theorem takes_cons {a : UInt8} {as' : List UInt8} {o o' : TOp} {ws : List (List UInt8)} (hl : ws.length = (a :: as').length) (h : takesT (a :: as') ws o = some o') : ∃ y ys o1, ws = y :: ys ∧ ys.length = as'.length ∧ takeT o a y = some o1 ∧ takesT as' ys o1 = some o' := by
  cases ws with
  | nil => cases hl
  | cons y ys =>
    rw [takesT] at h
    split at h
    · rename_i o1 h1
      exact ⟨y, ys, o1, rfl, by simpa using hl, h1, h⟩
    · cases h
theorem takes_nil {o o' : TOp} {ws : List (List UInt8)} (hl : ws.length = ([] : List UInt8).length) (h : takesT [] ws o = some o') : ws = [] ∧ o' = o := by
  cases ws with
  | nil => cases h; exact ⟨rfl, rfl⟩
  | cons y ys => cases hl
theorem back_nil : Back [] := by
  intro o o' ws hl h
  obtain ⟨rfl, rfl⟩ := takes_nil hl h
  exact ⟨rfl, rfl⟩
theorem back_i : Back [105] := by
  intro o o' ws hl h
  obtain ⟨y, ys, o1, rfl, hl, h1, h⟩ := takes_cons hl h
  obtain ⟨rfl, rfl⟩ := takes_nil hl h
  have e1 := take_i h1
  subst e1
  exact ⟨rfl, rfl⟩
theorem back_v : Back [118] := by
  intro o o' ws hl h
  obtain ⟨y, ys, o1, rfl, hl, h1, h⟩ := takes_cons hl h
  obtain ⟨rfl, rfl⟩ := takes_nil hl h
  obtain ⟨a, b, rfl, rfl⟩ := take_v h1
  exact ⟨rfl, rfl⟩
theorem back_s : Back [115] := by
  intro o o' ws hl h
  obtain ⟨y, ys, o1, rfl, hl, h1, h⟩ := takes_cons hl h
  obtain ⟨rfl, rfl⟩ := takes_nil hl h
  obtain ⟨a, b, rfl, rfl⟩ := take_s h1
  exact ⟨rfl, rfl⟩
theorem back_izom : Back [105, 122, 111, 109] := by
  intro o o' ws hl h
  obtain ⟨y, ys, o1, rfl, hl, h1, h⟩ := takes_cons hl h
  obtain ⟨y2, ys, o2, rfl, hl, h2, h⟩ := takes_cons hl h
  obtain ⟨y3, ys, o3, rfl, hl, h3, h⟩ := takes_cons hl h
  obtain ⟨y4, ys, o4, rfl, hl, h4, h⟩ := takes_cons hl h
  obtain ⟨rfl, rfl⟩ := takes_nil hl h
  have e1 := take_i h1
  subst e1
  obtain ⟨n2, rfl, rfl⟩ := take_z h2
  obtain ⟨n3, rfl, rfl⟩ := take_o h3
  obtain ⟨n4, rfl, rfl⟩ := take_m h4
  exact ⟨rfl, rfl⟩
theorem back_ipom : Back [105, 112, 111, 109] := by
  intro o o' ws hl h
  obtain ⟨y, ys, o1, rfl, hl, h1, h⟩ := takes_cons hl h
  obtain ⟨y2, ys, o2, rfl, hl, h2, h⟩ := takes_cons hl h
  obtain ⟨y3, ys, o3, rfl, hl, h3, h⟩ := takes_cons hl h
  obtain ⟨y4, ys, o4, rfl, hl, h4, h⟩ := takes_cons hl h
  obtain ⟨rfl, rfl⟩ := takes_nil hl h
  have e1 := take_i h1
  subst e1
  obtain ⟨a, b, rfl, rfl⟩ := take_p h2
  obtain ⟨n3, rfl, rfl⟩ := take_o h3
  obtain ⟨n4, rfl, rfl⟩ := take_m h4
  exact ⟨rfl, rfl⟩
theorem back_iad : Back [105, 97, 100] := by
  intro o o' ws hl h
  obtain ⟨y, ys, o1, rfl, hl, h1, h⟩ := takes_cons hl h
  obtain ⟨y2, ys, o2, rfl, hl, h2, h⟩ := takes_cons hl h
  obtain ⟨y3, ys, o3, rfl, hl, h3, h⟩ := takes_cons hl h
  obtain ⟨rfl, rfl⟩ := takes_nil hl h
  have e1 := take_i h1
  subst e1
  obtain ⟨n2, rfl, rfl⟩ := take_a h2
  obtain ⟨n3, rfl, rfl⟩ := take_d h3
  exact ⟨rfl, rfl⟩
theorem back_ial : Back [105, 97, 108] := by
  intro o o' ws hl h
  obtain ⟨y, ys, o1, rfl, hl, h1, h⟩ := takes_cons hl h
  obtain ⟨y2, ys, o2, rfl, hl, h2, h⟩ := takes_cons hl h
  obtain ⟨y3, ys, o3, rfl, hl, h3, h⟩ := takes_cons hl h
  obtain ⟨rfl, rfl⟩ := takes_nil hl h
  have e1 := take_i h1
  subst e1
  obtain ⟨n2, rfl, rfl⟩ := take_a h2
  obtain ⟨n3, rfl, rfl⟩ := take_l h3
  exact ⟨rfl, rfl⟩
theorem back_iz : Back [105, 122] := by
  intro o o' ws hl h
  obtain ⟨y, ys, o1, rfl, hl, h1, h⟩ := takes_cons hl h
  obtain ⟨y2, ys, o2, rfl, hl, h2, h⟩ := takes_cons hl h
  obtain ⟨rfl, rfl⟩ := takes_nil hl h
  have e1 := take_i h1
  subst e1
  obtain ⟨n2, rfl, rfl⟩ := take_z h2
  exact ⟨rfl, rfl⟩
theorem back_val : Back [118, 97, 108] := by
  intro o o' ws hl h
  obtain ⟨y, ys, o1, rfl, hl, h1, h⟩ := takes_cons hl h
  obtain ⟨y2, ys, o2, rfl, hl, h2, h⟩ := takes_cons hl h
  obtain ⟨y3, ys, o3, rfl, hl, h3, h⟩ := takes_cons hl h
  obtain ⟨rfl, rfl⟩ := takes_nil hl h
  obtain ⟨a, b, rfl, rfl⟩ := take_v h1
  obtain ⟨n2, rfl, rfl⟩ := take_a h2
  obtain ⟨n3, rfl, rfl⟩ := take_l h3
  exact ⟨rfl, rfl⟩
theorem back_v2 : Back [118, 50] := by
  intro o o' ws hl h
  obtain ⟨y, ys, o1, rfl, hl, h1, h⟩ := takes_cons hl h
  obtain ⟨y2, ys, o2, rfl, hl, h2, h⟩ := takes_cons hl h
  obtain ⟨rfl, rfl⟩ := takes_nil hl h
  obtain ⟨a, b, rfl, rfl⟩ := take_v h1
  obtain ⟨n2, rfl, rfl⟩ := take_2 h2
  exact ⟨rfl, rfl⟩
theorem back_id : Back [105, 100] := by
  intro o o' ws hl h
  obtain ⟨y, ys, o1, rfl, hl, h1, h⟩ := takes_cons hl h
  obtain ⟨y2, ys, o2, rfl, hl, h2, h⟩ := takes_cons hl h
  obtain ⟨rfl, rfl⟩ := takes_nil hl h
  have e1 := take_i h1
  subst e1
  obtain ⟨n2, rfl, rfl⟩ := take_d h2
  exact ⟨rfl, rfl⟩
theorem back_im : Back [105, 109] := by
  intro o o' ws hl h
  obtain ⟨y, ys, o1, rfl, hl, h1, h⟩ := takes_cons hl h
  obtain ⟨y2, ys, o2, rfl, hl, h2, h⟩ := takes_cons hl h
  obtain ⟨rfl, rfl⟩ := takes_nil hl h
  have e1 := take_i h1
  subst e1
  obtain ⟨n2, rfl, rfl⟩ := take_m h2
  exact ⟨rfl, rfl⟩
theorem back_all : ∀ v ∈ verbsT, Back v.2.2 := by
  unfold verbsT
  simp only [List.forall_mem_cons]
  exact ⟨back_izom, back_ipom, back_i, back_i, back_i, back_iad, back_ial, back_iz, back_s, back_s, back_s, back_s, back_s, back_i, back_i, back_val, back_v2, back_id, back_v, back_im, back_v, back_nil, nofun⟩
def knownB (a : UInt8) : Bool := [105, 118, 115, 112, 50, 100, 109, 97, 108, 122, 111].contains a.toNat
theorem wants_known : ∀ v ∈ verbsT, v.2.2.all knownB = true ∧ v.2.2.count 50 ≤ 1 := by decide
theorem verb_found {x : List UInt8} {n : Nat} : ∀ {l : List (List UInt8 × Int × List UInt8)} {v : List UInt8 × Int × List UInt8}, verbOf x n l = some v → v ∈ l ∧ v.1 = x ∧ n = 2 + v.2.2.length := by
  intro l
  induction l with
  | nil => intro v h; cases h
  | cons u l ih =>
    intro v h
    rw [verbOf] at h
    split at h
    · rename_i q; cases h; exact ⟨List.mem_cons_self, q⟩
    · exact ⟨List.mem_cons_of_mem _ (ih h).1, (ih h).2⟩
theorem kind_found : ∀ v ∈ verbsT, kindOf v.2.1 verbsT = some v := by decide
theorem print_back {l : List UInt8} {c : Int} {o : TOp} (h : parseT l = some (c, o)) : ∃ v, kindOf o.kind verbsT = some v ∧ lineT c o v = l := by
  have hp := h
  unfold parseT at h
  split at h
  · rename_i c' x ws hw
    split at h
    · rename_i hn
      split at h
      · rename_i v hv
        split at h
        · rename_i o' ht
          cases h
          obtain ⟨hm, h1, h2⟩ := verb_found hv
          obtain ⟨b1, b2⟩ := back_all v hm _ _ ws (by omega) ht
          refine ⟨v, ?_, ?_⟩
          · rw [b2]; exact kind_found v hm
          · unfold lineT
            rw [b1, num_itoa hn, h1, ← hw]
            exact words_join l
        · cases h
      · cases h
    · cases h
  · cases h
end Go.Tk
