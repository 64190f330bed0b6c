/- Tx: what functions of the library, and of lines, answer: told to the interpreter. -/
import Derived.Test.YtijnnpbfgmmngaaGreatDoorKP2
import Derived.Test.YtijnnpbfgmmngaaGreatDoorVgJ
namespace Go.Tk
open Go.Lib Go.Vi
def indexX (args : List Value) (h : Heap) : Option (Value × Heap) := match args with
  | [.string s, .string p] => match strL p with
    | [c] => some (.int .i64 (indexByte (strL s) c), h)
    | _ => none
  | _ => none
def cutX (args : List Value) (h : Heap) : Option (Value × Heap) := match args with
  | [.string s, .string p] => match strL p with
    | [64] => if s.size ≤ 100000 then some (.tuple ⟨[.string (strOf (twoOf (strL s)).1), .string (strOf (twoOf (strL s)).2.1), .bool (twoOf (strL s)).2.2]⟩, h) else none
    | _ => none
  | _ => none
def itoaX (args : List Value) (h : Heap) : Option (Value × Heap) := match args with
  | [.int .i64 z] => if -9223372036854775808 ≤ z ∧ z ≤ 9223372036854775807 then some (.string (strOf (itoa z)), h) else none
  | _ => none
def numV (l : List UInt8) : Int := match atoiAll l with
  | .ok v => v
  | .range => atoiSat l
  | _ => 0
def numB (l : List UInt8) : Bool := match atoiAll l with
  | .ok v => itoa v == l
  | _ => false
def numberX (args : List Value) (h : Heap) : Option (Value × Heap) := match args with
  | [.string s] => if s.size ≤ 100000 then some (.tuple ⟨[.int .i64 (numV (strL s)), .bool (numB (strL s))]⟩, h) else none
  | _ => none
def textsV (l : List (List UInt8)) : List Value := l.map fun x => .string (strOf x)
def splitX (args : List Value) (h : Heap) : Option (Value × Heap) := match args with
  | [.string s, .string p] => match strL p with
    | [32] => if s.size ≤ 100000 then some (.slice (some ⟨h.next, 0, none⟩) (wordsL (strL s)).length (wordsL (strL s)).length, h.new (.cells (textsV (wordsL (strL s))) true none)) else none
    | _ => none
  | _ => none
def okByte (v : Value) : Bool := match v with | .int .u8 n => decide (0 ≤ n ∧ n ≤ 255) | _ => false
def hexX (hexS : List UInt8 → List UInt8) (args : List Value) (h : Heap) : Option (Value × Heap) := match args with
  | [.slice none 0 0] => some (.string (strOf (hexS [])), h)
  | [.slice (some ⟨b, o, none⟩) n _] => match cellsAt (h.get b) o n with
    | some cs => match unbytes cs with
      | some l => if n ≤ 2000 ∧ cs.all okByte = true then some (.string (strOf (hexS l)), h) else none
      | none => none
    | none => none
  | _ => none
def aliveX (args : List Value) (h : Heap) : Option (Value × Heap) := match args with
  | [] => some (.bool true, h)
  | _ => none
theorem bytes_eq : ∀ (cs : List Value) (l : List UInt8), unbytes cs = some l → cs.all okByte = true → cs = l.map byteV := by
  intro cs
  induction cs with
  | nil => intro l h _; cases h; rfl
  | cons v cs ih =>
    intro l h ha
    rw [List.all_cons, Bool.and_eq_true] at ha
    rw [unbytes] at h
    split at h
    · rename_i b l' hb hl
      cases h
      rw [List.map_cons, ← ih l' hl ha.2]
      congr 1
      unfold unbyte at hb
      split at hb
      · rename_i n
        cases hb
        have hn : 0 ≤ n ∧ n ≤ 255 := by simpa [okByte] using ha.1
        unfold byteV
        congr 1
        rw [UInt8.toNat_ofNat']
        omega
      · cases hb
    · cases h
end Go.Tk
