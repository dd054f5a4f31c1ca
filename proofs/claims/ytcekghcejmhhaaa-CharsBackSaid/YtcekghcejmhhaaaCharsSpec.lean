set_option linter.unusedSimpArgs false
set_option linter.unusedVariables false
set_option linter.unnecessarySimpa false
/-! The plain functions of the layer 'chars': what each computes, on lists of whole numbers. No Go here. -/
namespace Go.Proofs.Ytcekghcejmhhaaa

/-- What stands at the beginning of bytes. -/
structure Step where
  kind : Int
  ch : Int
  bytes : Int
  st : Int
deriving DecidableEq

def Step.part : Step := ⟨3, 0, 0, 0⟩
def Step.bad : Step := ⟨2, 0, 0, 0⟩

/-- The bytes behind the first one, r of them still to come, c so far. -/
def restS (n : Int) : Nat → Int → Int → Int → List Int → Step
  | 0, c, _, _, _ => ⟨1, c, n, 0⟩
  | r + 1, c, lo, hi, t =>
    match t with
    | [] => .part
    | x :: t' => if x < lo then .bad else if hi < x then .bad else restS n r (c * 64 + x % 64) 128 191 t'

def nextO : List Int → Step
  | [] => .part
  | x :: _ => ⟨1, x, 1, 0⟩

def nextU : List Int → Step
  | [] => .part
  | x :: t =>
    if x < 128 then ⟨1, x, 1, 0⟩
    else if 194 ≤ x ∧ x ≤ 223 then restS 2 1 (x % 32) 128 191 t
    else if 224 ≤ x ∧ x ≤ 224 then restS 3 2 (x % 16) 160 191 t
    else if 225 ≤ x ∧ x ≤ 236 then restS 3 2 (x % 16) 128 191 t
    else if 237 ≤ x ∧ x ≤ 237 then restS 3 2 (x % 16) 128 159 t
    else if 238 ≤ x ∧ x ≤ 239 then restS 3 2 (x % 16) 128 191 t
    else if 240 ≤ x ∧ x ≤ 240 then restS 4 3 (x % 8) 144 191 t
    else if 241 ≤ x ∧ x ≤ 243 then restS 4 3 (x % 8) 128 191 t
    else if 244 ≤ x ∧ x ≤ 244 then restS 4 3 (x % 8) 128 143 t
    else .bad

def good (x : Int) : Bool := decide (33 ≤ x) && decide (x < 127)

/-- Behind n shifts, in a state. -/
def nextS : Int → Int → List Int → Step
  | _, _, [] => .part
  | n, s, x :: t =>
    if x = 14 then nextS (n + 1) 1 t
    else if x = 15 then nextS (n + 1) 0 t
    else if s = 0 then (if 127 < x then .bad else ⟨1, x, n + 1, 0⟩)
    else if good x = false then .bad
    else match t with
      | [] => .part
      | y :: _ => if good y = false then .bad else ⟨1, 19968 + 94 * (x - 33) + (y - 33), n + 2, 1⟩

def nextC (enc st : Int) (b : List Int) : Step :=
  if enc = 1 then nextO b else if enc = 2 then nextU b else nextS 0 st b

def hasC (enc c : Int) : Bool :=
  if enc = 1 then decide (c < 256)
  else if enc = 2 then decide (c < 55296 ∨ 57343 < c ∧ c ≤ 1114111)
  else decide (c ≤ 127 ∧ c ≠ 14 ∧ c ≠ 15 ∨ 19968 ≤ c ∧ c ≤ 28803)

def turnC (f t : Int) : List Int := if f = t then [] else if t = 1 then [14] else [15]

def putC (enc st c : Int) : List Int × Int :=
  if enc = 1 then ([c % 256], 0)
  else if enc = 2 then
    (if c < 128 then [c % 256] else if c < 2048 then [192 + c / 64, 128 + c % 64]
     else if c < 65536 then [224 + c / 4096, 128 + c / 64 % 64, 128 + c % 64]
     else [240 + c / 262144, 128 + c / 4096 % 64, 128 + c / 64 % 64, 128 + c % 64], 0)
  else if c ≤ 127 then (turnC st 0 ++ [c % 256], 0)
  else (turnC st 1 ++ [33 + (c - 19968) / 94, 33 + (c - 19968) % 94], 1)

def statesC (enc : Int) : Int := if enc = 3 then 2 else 1
def encOk (enc : Int) : Prop := 1 ≤ enc ∧ enc ≤ 3
instance (enc : Int) : Decidable (encOk enc) := inferInstanceAs (Decidable (_ ∧ _))

/-- Shifts alone, or nothing. -/
def passedC (enc : Int) (b : List Int) : Bool := if enc = 3 then b.all (fun x => decide (x = 14 ∨ x = 15)) else b.isEmpty

/-- The characters of bytes and where each begins; or the offset of the first error. -/
def decodeLoop (enc : Int) : Nat → Int → Int → List Int → List (Int × Int) × Option Int
  | 0, _, _, _ => ([], none)
  | k + 1, st, at_, b =>
    if passedC enc b then ([], none)
    else
      let s := nextC enc st b
      if s.kind = 1 then
        let r := decodeLoop enc k s.st (at_ + s.bytes) (b.drop s.bytes.toNat)
        ((at_, s.ch) :: r.1, r.2)
      else ([], some at_)

/-- List, error, place. -/
def decodeC (enc : Int) (b : List Int) : List Int × Int × Int :=
  if ¬ encOk enc then ([], 1, 0)
  else if 20000 < b.length then ([], 2, 0)
  else
    let r := decodeLoop enc b.length 0 0 b
    match r.2 with
    | none => (r.1.map (·.2), 0, 0)
    | some a => ([], 15, a)

/-- The bytes of characters from place i on, in a state. -/
def encLoop (enc : Int) : Int → Int → List Int → List Int × Int × Option Int
  | st, _, [] => ([], st, none)
  | st, i, c :: l =>
    if hasC enc c then
      let p := putC enc st c
      let r := encLoop enc p.2 (i + 1) l
      (p.1 ++ r.1, r.2)
    else ([], st, some i)

def encodedC (enc : Int) (l : List Int) : List Int × Int × Int :=
  let r := encLoop enc 0 0 l
  match r.2.2 with
  | some i => ([], 15, i)
  | none => if 20000 < (r.1 ++ turnC r.2.1 0).length then ([], 2, 0) else (r.1 ++ turnC r.2.1 0, 0, 0)

def encodeC (enc : Int) (l : List Int) : List Int × Int × Int :=
  if ¬ encOk enc then ([], 1, 0) else if 20000 < l.length then ([], 2, 0) else encodedC enc l

/-- As many characters as have room: bytes, their number, error. -/
def fitLoop (enc most : Int) : Int → List Int → List Int → Nat → List Int → List Int × Int × Int
  | _, _, bb, k, [] => (bb, k, 0)
  | st, lg, bb, k, c :: t =>
    if hasC enc c then
      let p := putC enc st c
      if most < ((lg ++ p.1) ++ turnC p.2 0).length then (bb, k, 0)
      else fitLoop enc most p.2 (lg ++ p.1) ((lg ++ p.1) ++ turnC p.2 0) (k + 1) t
    else ([], 0, 15)

def fitC (enc : Int) (l : List Int) (most : Int) : List Int × Int × Int :=
  if ¬ encOk enc then ([], 0, 1) else if 20000 < l.length then ([], 0, 2) else if most < 0 then ([], 0, 1) else fitLoop enc most 0 [] [] 0 l
end Go.Proofs.Ytcekghcejmhhaaa
