/- What the encodings of layer 1 are, as plain functions on lists of bytes and of data. -/
import Derived.Test.YthpabgiicglbmaaEx0
namespace Go.Proofs.Ythpabgiicglbmaa.E
set_option linter.unusedVariables false

abbrev Bytes := List UInt8
def ofL (l : Bytes) : ByteArray := ⟨l.toArray⟩
def toL (s : ByteArray) : Bytes := s.data.toList
theorem toL_ofL (l : Bytes) : toL (ofL l) = l := rfl
theorem ofL_toL (s : ByteArray) : ofL (toL s) = s := by cases s; rfl
theorem ofL_inj {a b : Bytes} (h : ofL a = ofL b) : a = b := by rw [← toL_ofL a, ← toL_ofL b, h]
theorem toL_inj {a b : ByteArray} (h : toL a = toL b) : a = b := by rw [← ofL_toL a, ← ofL_toL b, h]
theorem size_ofL (l : Bytes) : (ofL l).size = l.length := rfl
theorem length_toL (s : ByteArray) : (toL s).length = s.size := rfl

/-- each byte is 255 minus what it was -/
def flipL (l : Bytes) : Bytes := l.map (255 - ·)

/-- a byte sequence, escaped and ended -/
def escL : Bytes → Bytes
  | [] => [0, 1]
  | b :: r => if b = 0 then 0 :: 255 :: escL r else b :: escL r

/-- the byte sequence that is encoded at the beginning, and how many bytes its encoding has -/
def unescL : Bytes → Option (Bytes × Nat)
  | [] => none
  | [b] => none
  | b :: c :: r =>
    if b = 0 then
      if c = 1 then some ([], 2)
      else if c = 255 then (unescL r).map fun x => (0 :: x.1, x.2 + 2)
      else none
    else (unescL (c :: r)).map fun x => (b :: x.1, x.2 + 1)

/-- a number in so many bytes, the most significant one first -/
def bigL (n : Nat) : Nat → Bytes
  | 0 => []
  | k + 1 => bigL (n / 256) k ++ [UInt8.ofNat (n % 256)]

def unbigL (l : Bytes) : Nat := l.foldl (fun a b => a * 256 + b.toNat) 0

def putIntL (n : Int) : Bytes := bigL ((n + 9223372036854775808) % 18446744073709551616).toNat 8

/-- the number at the beginning, and how many bytes it has -/
def getUintL (l : Bytes) : Option (Nat × Nat) :=
  match l with
  | [] => none
  | b :: r =>
    if b.toNat < 240 then some (b.toNat, 1)
    else
      let m := b.toNat - 239
      if 8 < m then none
      else if r.length < m then none
      else
        let x := unbigL (r.take m)
        if x ≤ 4611686018427387664 ∧ (m = 1 ∨ x / 256 ^ (m - 1) > 0) then some (x + 240, m + 1) else none

def getIntL (l : Bytes) : Option Int :=
  if l.length < 8 then none else some ((unbigL (l.take 8) : Int) - 9223372036854775808)

def get32L (l : Bytes) : Option Nat :=
  if l.length < 4 then none else some (unbigL (l.take 4))

/-- is a datum valid -/
def validB (k n : Int) (s : ByteArray) : Bool :=
  (k == 0 && n == 0 && s.size == 0) || (k == 1 && (n == 0 || n == 1) && s.size == 0) || (k == 2 && s.size == 0) || (k == 3 && n == 0)

/-- a valid datum's encoding, in ascending order -/
def datumL (d : S49) : Bytes :=
  if d.f0 = 1 then [2, UInt8.ofNat d.f1.toNat]
  else if d.f0 = 2 then 3 :: putIntL d.f1
  else if d.f0 = 3 then 4 :: escL (toL d.f2)
  else [1]

def desc (l : List Bool) (i : Nat) : Bool := l.getD i false

/-- the encoding of a list of data from position i on; nothing if one is not valid -/
def putKeyL (ds : List Bool) : Nat → List S49 → Option Bytes
  | _, [] => some []
  | i, d :: r =>
    if validB d.f0 d.f1 d.f2 then
      (putKeyL ds (i + 1) r).map fun x => (if desc ds i then flipL (datumL d) else datumL d) ++ x
    else none

/-- the datum at the beginning, and how many bytes it has -/
def oneL (l : Bytes) : Option (S49 × Nat) :=
  match l with
  | [] => none
  | b :: r =>
    if b = 1 then some (⟨0, 0, ⟨#[]⟩⟩, 1)
    else if b = 2 then
      match r with
      | [] => none
      | c :: _ => if c.toNat ≤ 1 then some (⟨1, c.toNat, ⟨#[]⟩⟩, 2) else none
    else if b = 3 then (getIntL r).map fun n => (⟨2, n, ⟨#[]⟩⟩, 9)
    else if b = 4 then (unescL r).map fun x => (⟨3, 0, ofL x.1⟩, x.2 + 1)
    else none

/-- all data from position i on, to the end; k: more rounds than there are bytes -/
def getKeyL (ds : List Bool) : Nat → Nat → Bytes → Option (List S49)
  | 0, _, _ => none
  | k + 1, i, l =>
    if l = [] then some []
    else
      match oneL (if desc ds i then flipL l else l) with
      | none => none
      | some (d, n) => (getKeyL ds k (i + 1) (l.drop n)).map (d :: ·)

def cmpI (a b : Int) : Int := if a < b then -1 else if b < a then 1 else 0
def cmpB (a b : ByteArray) : Int := if Op.bytesLess a.toList b.toList then -1 else if Op.bytesLess b.toList a.toList then 1 else 0
def cmpData (a b : S49) : Int :=
  if cmpI a.f0 b.f0 ≠ 0 then cmpI a.f0 b.f0 else if cmpI a.f1 b.f1 ≠ 0 then cmpI a.f1 b.f1 else cmpB a.f2 b.f2
def cmpKeys (ds : List Bool) : Nat → List S49 → List S49 → Int
  | _, [], [] => 0
  | _, [], _ :: _ => -1
  | _, _ :: _, [] => 1
  | i, a :: l, b :: m => let c := if desc ds i then cmpData b a else cmpData a b; if c ≠ 0 then c else cmpKeys ds (i + 1) l m

/-! the contracts' functions -/
def enc_Flip.f (a0 : ByteArray) : Option ByteArray := if a0.size ≤ 1000000 then some (ofL (flipL (toL a0))) else none
def enc_PutText.f (a0 : ByteArray) : Option ByteArray := if a0.size ≤ 1000000 then some (ofL (escL (toL a0))) else none
def enc_GetText.f (a0 : ByteArray) : Option (ByteArray × Int × Int) :=
  if a0.size ≤ 1000000 then some (match unescL (toL a0) with | some x => (ofL x.1, (x.2 : Int), 0) | none => (⟨#[]⟩, 0, 2)) else none
def enc_GetUint.f (a0 : ByteArray) : Option (Int × Int × Int) :=
  if a0.size ≤ 1000000000000000 then some (match getUintL (toL a0) with | some x => ((x.1 : Int), (x.2 : Int), 0) | none => (0, 0, 2)) else none
def enc_GetInt.f (a0 : ByteArray) : Option (Int × Int × Int) :=
  if a0.size ≤ 1000000000000000 then some (match getIntL (toL a0) with | some x => (x, 8, 0) | none => (0, 0, 2)) else none
def enc_Get32.f (a0 : ByteArray) : Option (Int × Int) :=
  if a0.size ≤ 1000000000000000 then some (match get32L (toL a0) with | some x => ((x : Int), 0) | none => (0, 2)) else none
def i64B (n : Int) : Bool := decide (-9223372036854775808 ≤ n ∧ n ≤ 9223372036854775807)
def enc_CheckDatum.f (a0 a1 : Int) (a2 : ByteArray) : Option Int := if i64B a1 then some (if validB a0 a1 a2 then 0 else 2) else none
def enc_CompareKeys.f (l0 l1 : List S49) (l2 : List Bool) : Option Int := some (cmpKeys l2 0 l0 l1)
def enc_PutKey.f (l0 : List S49) (l1 : List Bool) : Option (ByteArray × Int) :=
  if l0.length ≤ 100000 ∧ ∀ d ∈ l0, i64B d.f1 ∧ d.f2.size ≤ 100000 then some (match putKeyL l1 0 l0 with | some x => (ofL x, 0) | none => (⟨#[]⟩, 2)) else none
def enc_GetKey.f (a0 : ByteArray) (l1 : List Bool) : Option (List S49 × Int) :=
  if a0.size ≤ 1000000 then some (match getKeyL l1 (a0.size + 1) 0 (toL a0) with | some x => (x, 0) | none => ([], 2)) else none

end Go.Proofs.Ythpabgiicglbmaa.E
