/- Tb0: the environment: what is told, and why. -/
import Derived.Test.YtijnnpbfgmmngaaGreatDoorK4
import Derived.Test.YtijnnpbfgmmngaaGreatDoorTx
open Go Go.Vi Go.Tk
namespace Go.Proofs.YtijnnpbfgmmngaaGreatDoor.C
theorem envW_stands (w w' : World) (h : ∀ g, g < 8 → w'.heap[g]? = w.heap[g]?) (e : EnvW w) : EnvW w' := by
  obtain ⟨t, ⟨m, hm⟩, ⟨a, b, hs⟩, c, d, hr⟩ := e
  have hc : ∀ g o, g < 8 → w'.cell? ⟨g, o, none⟩ = w.cell? ⟨g, o, none⟩ := fun g o hg => by unfold World.cell?; rw [h g hg]
  refine ⟨?_, ⟨m, by rw [hc _ _ (by decide)]; exact hm⟩, ⟨a, b, by rw [hc _ _ (by decide)]; exact hs⟩, c, d, by rw [hc _ _ (by decide)]; exact hr⟩
  unfold TabOk Lib.TabIs World.var? at t ⊢
  have hg : Tryz.prog.globalNamed "internal/strconv.uint64pow10" = some 3 := by kernel_rfl
  rw [hg] at t ⊢
  simp only [Option.bind_some] at t ⊢
  rw [h _ (by decide)]
  exact t
def KT : Known := knownOf 8 EnvW envW_stands
theorem index_ok : ExtOk KT Tryz.prog 60 indexX := by
  refine ext_kept (entersV Tryz.func60 (by kernel_rfl) (by kernel_rfl)) fun args h v h' hm => ?_
  unfold indexX at hm
  split at hm
  · rename_i s p
    split at hm
    · rename_i c hc
      cases hm
      have hp : p = ⟨#[c]⟩ := by
        apply ByteArray.ext
        apply Array.ext'
        exact hc
      subst hp
      refine ⟨rfl, rfl, rfl, fun ρ w _ => (Tryz.stringslite_Index_one s c w).mono fun e w' hh => ?_⟩
      obtain ⟨rfl, rfl⟩ := hh
      exact ⟨rfl, .refl _⟩
    · cases hm
  · cases hm
theorem kept_drewN (w : World) (n : Nat) : KeptW w (w.drewN n) := by
  have := grown w n #[]
  exact ⟨rfl, rfl, Nat.le_refl _, fun _ _ => rfl⟩
theorem cut_ok : ExtOk KT Tryz.prog 50 cutX := by
  refine ext_kept (entersV Tryz.func50 (by kernel_rfl) (by kernel_rfl)) fun args h v h' hm => ?_
  unfold cutX at hm
  split at hm
  · rename_i s p
    split at hm
    · rename_i hc
      split at hm
      · rename_i hs
        cases hm
        have hp : p = ⟨#[64]⟩ := by
          apply ByteArray.ext
          apply Array.ext'
          exact hc
        subst hp
        refine ⟨rfl, rfl, rfl, fun ρ w kn => ?_⟩
        obtain ⟨m, hmx⟩ := kn.1.ml
        refine (Tryz.strings_Cut s ⟨#[64]⟩ m w (by omega) hmx).mono fun e w' hh => ?_
        obtain ⟨rfl, n, rfl⟩ := hh
        have e2 : Lib.cut s.data.toList [64] = twoOf (strL s) := cut_is _
        refine ⟨?_, kept_drewN w n⟩
        simp only [e2]
        rfl
      · cases hm
    · cases hm
  · cases hm
theorem itoa_ok : ExtOk KT Tryz.prog 22 itoaX := by
  refine ext_kept (entersV Tryz.func22 (by kernel_rfl) (by kernel_rfl)) fun args h v h' hm => ?_
  unfold itoaX at hm
  split at hm
  · split at hm
    · rename_i hz
      cases hm
      exact ⟨rfl, rfl, rfl, fun ρ w kn => itoa_calls _ hz.1 hz.2 w kn.1.tab⟩
    · cases hm
  · cases hm
theorem figX_ok : ExtOk KT Tryz.prog 24 itoaX := ext_of ok0 fun args h r hm => by
  unfold itoaX at hm
  split at hm
  · split at hm
    · rename_i hz
      cases hm
      exact ⟨_, figures_ok _ hz.1 hz.2 0 h⟩
    · cases hm
  · cases hm
theorem number_ok : ExtOk KT Tryz.prog 18 numberX := by
  refine ext_kept (entersV Tryz.func18 (by kernel_rfl) (by kernel_rfl)) fun args h v h' hm => ?_
  unfold numberX at hm
  split at hm
  · rename_i s
    split at hm
    · rename_i hz
      cases hm
      exact ⟨rfl, rfl, rfl, fun ρ w kn => number_calls (strL s) hz w kn.1⟩
    · cases hm
  · cases hm
theorem aliveX_ok : ExtOk KT Tryz.prog 4 aliveX := by
  refine ext_kept (entersV Tryz.func4 (by kernel_rfl) (by kernel_rfl)) fun args h v h' hm => ?_
  unfold aliveX at hm
  split at hm
  · cases hm
    exact ⟨rfl, rfl, rfl, fun ρ w _ => alive_calls w⟩
  · cases hm
theorem texts_plain (l : List (List UInt8)) : (textsV l).all (plainB 100) = true := List.all_eq_true.2 fun x hx => by
  obtain ⟨s, _, rfl⟩ := List.mem_map.1 hx
  rfl
theorem split_ok : ExtOk KT Tryz.prog 17 splitX := by
  intro args h v h' hm
  unfold splitX at hm
  split at hm
  · rename_i s p
    split at hm
    · rename_i hc
      split at hm
      · rename_i hs
        cases hm
        have hp : p = ⟨#[32]⟩ := by
          apply ByteArray.ext
          apply Array.ext'
          exact hc
        subst hp
        refine ⟨entersV Tryz.func17 (by kernel_rfl) (by kernel_rfl), Nat.le_succ _, fun ρ w args' gd win hargs => ?_⟩
        have ha : args' = #[.string s, .string ⟨#[32]⟩] := by
          apply Array.ext'
          exact plains_inv (n := 100) (fun v v' => plain_inv 100 v v') _ _ rfl hargs
        subst ha
        obtain ⟨m, hmx⟩ := gd.known.1.ml
        refine (Tryz.strings_Split s ⟨#[32]⟩ m w (by omega) hmx (by decide)).mono fun e w' hh => ?_
        obtain ⟨rfl, rfl⟩ := hh
        have hcount : Lib.countB s ⟨#[32]⟩ = (strL s).count 32 := Lib.count_one _ _
        have hspl : (Lib.splitB ⟨#[32]⟩ 0 (Lib.countB s ⟨#[32]⟩) s).map Value.string = textsV (wordsL (strL s)) := by
          rw [hcount, ← split_is _ (strL s) rfl]
          have := Lib.splitB_data ⟨#[32]⟩ 0 ((strL s).count 32) s
          unfold textsV
          rw [show Lib.splitK [32] 0 ((strL s).count 32) (strL s) = Lib.splitK (ByteArray.mk #[32]).data.toList 0 ((strL s).count 32) s.data.toList from rfl, ← this, List.map_map]
          apply List.map_congr_left
          intro x _
          rfl
        have hlen : Lib.countB s ⟨#[32]⟩ + 1 = (textsV (wordsL (strL s))).length := by
          rw [hcount]
          unfold textsV
          rw [List.length_map, words_len]
        have hlen2 : (wordsL (strL s)).length = (textsV (wordsL (strL s))).length := by unfold textsV; rw [List.length_map]
        rw [hspl, hlen, hlen2]
        exact post_row gd (texts_plain _) (win _ (Nat.le_refl _) (Nat.lt_succ_self _))
      · cases hm
    · cases hm
  · cases hm
theorem row_real {ρ : Map} {h : Heap} {w : World} (gd : Vi.Good KT ρ h w) {b o n c : Nat} {cs : List Value} {l : List UInt8} {v' : Value} (hcs : cellsAt (h.get b) o n = some cs) (hl : unbytes cs = some l) (hk : cs.all okByte = true)
    (hv : VRel ρ (.slice (some ⟨b, o, none⟩) n c) v') : l.length = n ∧ IsRow w v' l := by
  have he := bytes_eq _ _ hl hk
  unfold cellsAt at hcs
  split at hcs
  · rename_i row wr op hget
    split at hcs
    · rename_i hle
      cases hcs
      obtain ⟨B, o', c', rfl, hcap, hB, hall⟩ := slice_real gd hget hle hv
      have hln : l.length = n := by
        have := congrArg List.length he
        rw [List.length_map, List.length_take, List.length_drop] at this
        omega
      refine ⟨hln, .inr ⟨⟨B, o', none⟩, c', by rw [hln], fun _ => ⟨hB, fun j x hj => ?_⟩⟩⟩
      have hjn : j < n := by rw [← hln]; exact (List.getElem?_eq_some_iff.1 hj).1
      rw [add_at]
      refine hall j _ hjn ?_ rfl
      have := congrArg (·[j]?) he
      simp only [List.getElem?_take, hjn, if_true, List.getElem?_drop] at this
      rw [this, List.getElem?_map, hj]
      rfl
    · cases hcs
  · cases hcs
theorem hexX_ok {f : FuncId} (he : Vi.Enters Tryz.prog f) (hc : ∀ (w : World) {v : Value} {l : List UInt8}, l.length ≤ 2000 → IsRow w v l → Calls Tryz.prog f #[v] w fun e w' => e = .returned (.string (strOf (hexS l))) ∧ KeptW w w') : ExtOk KT Tryz.prog f (hexX hexS) := by
  intro args h v h' hm
  have fin : ∀ {ρ : Map} {w : World} (gd : Vi.Good KT ρ h w) {v0 : Value} {l : List UInt8} (_ : l.length ≤ 2000) (_ : IsRow w v0 l), Calls Tryz.prog f #[v0] w (Post KT ρ h w (.string (strOf (hexS l))) h) := fun {ρ w} gd {v0 l} hn hr => by
    refine (hc w hn hr).mono fun e w' hh => ?_
    obtain ⟨rfl, hk⟩ := hh
    obtain ⟨g2, s2⟩ := step_grow gd ⟨hk.2.2.1, hk.1, hk.2.1⟩ hk.2.2.2
    exact ⟨ρ, _, rfl, .string _, g2, s2⟩
  unfold hexX at hm
  split at hm
  · cases hm
    refine ⟨he, Nat.le_refl _, fun ρ w args' gd _ hargs => ?_⟩
    obtain ⟨v1, r1, e1, hv1, hr1⟩ := hargs.cons_inv
    have e2 := hr1.nil_inv
    subst e2
    have ha : args' = #[v1] := by apply Array.ext'; rw [e1]
    subst ha
    cases hv1
    exact fin gd (by simp) (.inl ⟨rfl, rfl⟩)
  · rename_i b o n c
    split at hm
    · rename_i cs hcs
      split at hm
      · rename_i l hl
        split at hm
        · rename_i hn
          cases hm
          refine ⟨he, Nat.le_refl _, fun ρ w args' gd _ hargs => ?_⟩
          obtain ⟨v1, r1, e1, hv1, hr1⟩ := hargs.cons_inv
          have e2 := hr1.nil_inv
          subst e2
          have ha : args' = #[v1] := by apply Array.ext'; rw [e1]
          subst ha
          obtain ⟨h1, h2⟩ := row_real gd hcs hl hn.2 hv1
          exact fin gd (by omega) h2
        · cases hm
      · cases hm
    · cases hm
  · cases hm
theorem hexOfX_ok : ExtOk KT Tryz.prog 23 (hexX hexS) := hexX_ok (entersV Tryz.func23 (by kernel_rfl) (by kernel_rfl)) fun w _ _ hn hr => hexOf_calls w hn hr
noncomputable def E : Env := (((((((E0.tell 60 indexX).tell 50 cutX).tell 22 itoaX).tell 24 itoaX).tell 18 numberX).tell 4 aliveX).tell 17 splitX).tell 23 (hexX hexS)
theorem okE : EnvOk KT Tryz.prog E := tell_ok (tell_ok (tell_ok (tell_ok (tell_ok (tell_ok (tell_ok (tell_ok ok0 index_ok) cut_ok) itoa_ok) figX_ok) number_ok) aliveX_ok) split_ok) hexOfX_ok
end Go.Proofs.YtijnnpbfgmmngaaGreatDoor.C
