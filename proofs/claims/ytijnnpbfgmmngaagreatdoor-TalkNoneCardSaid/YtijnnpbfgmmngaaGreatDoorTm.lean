/- Tm: operations and lines, plainly: what a line is parsed to. No program in sight. -/
import Derived.Test.YtijnnpbfgmmngaaGreatDoorTx
namespace Go.Tk
open Go.Lib
structure TOp where
  kind : Int
  image : List UInt8
  snap : List UInt8
  snap2 : List UInt8
  parent : List UInt8
  at_ : Int
  len : Int
  size : Int
  object : Int
  data : List UInt8
  on : Bool
def TOp.zero : TOp := ⟨0, [], [], [], [], 0, 0, 0, 0, [], false⟩
def verbsT : List (List UInt8 × Int × List UInt8) := [
  ([99, 114, 101, 97, 116, 101], 1, [105, 122, 111, 109]), ([99, 108, 111, 110, 101], 2, [105, 112, 111, 109]), ([97, 99, 113, 117, 105, 114, 101], 3, [105]), ([114, 101, 108, 101, 97, 115, 101], 4, [105]),
  ([98, 114, 101, 97, 107], 5, [105]), ([119, 114, 105, 116, 101], 6, [105, 97, 100]), ([100, 105, 115, 99, 97, 114, 100], 7, [105, 97, 108]), ([114, 101, 115, 105, 122, 101], 8, [105, 122]),
  ([115, 110, 97, 112], 9, [115]), ([117, 110, 115, 110, 97, 112], 10, [115]), ([114, 111, 108, 108, 98, 97, 99, 107], 11, [115]), ([112, 114, 111, 116, 101, 99, 116], 12, [115]),
  ([117, 110, 112, 114, 111, 116, 101, 99, 116], 13, [115]), ([102, 108, 97, 116, 116, 101, 110], 14, [105]), ([114, 101, 109, 111, 118, 101], 15, [105]), ([114, 101, 97, 100], 16, [118, 97, 108]),
  ([101, 120, 112, 111, 114, 116], 17, [118, 50]), ([105, 109, 112, 111, 114, 116], 18, [105, 100]), ([114, 101, 98, 117, 105, 108, 100], 19, [118]), ([109, 97, 114, 107, 115], 20, [105, 109]),
  ([99, 104, 101, 99, 107], 21, [118]), ([108, 105, 115, 116], 22, [])]
def pairB (w : List UInt8) : Bool := (twoOf w).2.2 && namedB (twoOf w).1 && namedB (twoOf w).2.1
def takeT (o : TOp) (want : UInt8) (w : List UInt8) : Option TOp :=
  if want.toNat = 105 then if namedB w then some { o with image := w } else none
  else if want.toNat = 118 then if pairB w then some { o with image := (twoOf w).1, snap := (twoOf w).2.1 } else if namedB w then some { o with image := w, snap := [] } else none
  else if want.toNat = 115 then if pairB w then some { o with image := (twoOf w).1, snap := (twoOf w).2.1 } else none
  else if want.toNat = 112 then if pairB w then some { o with parent := (twoOf w).1, snap := (twoOf w).2.1 } else none
  else if want.toNat = 50 then if w = [45] then some { o with snap2 := [] } else if namedB w then some { o with snap2 := w } else none
  else if want.toNat = 100 then match dataOf w with
    | some d => some { o with data := d }
    | none => none
  else if want.toNat = 109 then if w = [111, 110] then some { o with on := true } else if w = [111, 102, 102] then some { o with on := false } else none
  else if want.toNat = 97 then if numB w then some { o with at_ := numV w } else none
  else if want.toNat = 108 then if numB w then some { o with len := numV w } else none
  else if want.toNat = 122 then if numB w then some { o with size := numV w } else none
  else if want.toNat = 111 then if numB w then some { o with object := numV w } else none
  else none
def takesT : List UInt8 → List (List UInt8) → TOp → Option TOp
  | [], _, o => some o
  | w :: ws, x :: xs, o => match takeT o w x with
    | some o' => takesT ws xs o'
    | none => none
  | _ :: _, [], _ => none
def verbOf (x : List UInt8) (n : Nat) : List (List UInt8 × Int × List UInt8) → Option (List UInt8 × Int × List UInt8)
  | [] => none
  | v :: r => if v.1 = x ∧ n = 2 + v.2.2.length then some v else verbOf x n r
def parseT (l : List UInt8) : Option (Int × TOp) :=
  match wordsL l with
  | c :: x :: ws => if numB c then match verbOf x (2 + ws.length) verbsT with
      | some v => match takesT v.2.2 ws { TOp.zero with kind := v.2.1 } with
        | some o => some (numV c, o)
        | none => none
      | none => none
    else none
  | _ => none
end Go.Tk
