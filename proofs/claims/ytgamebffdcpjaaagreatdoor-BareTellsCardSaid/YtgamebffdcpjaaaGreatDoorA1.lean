/- Plain functions: what bare items are, their texts, what is read from a text. No program in sight. -/
import Derived.Lib.ItoaNum
import Derived.Lib.Replace
namespace Bs
abbrev Bytes := List UInt8

def digit (c : UInt8) : Bool := decide (48 ≤ c.toNat ∧ c.toNat ≤ 57)
def letter (c : UInt8) : Bool := decide ((97 ≤ c.toNat ∧ c.toNat ≤ 122) ∨ (65 ≤ c.toNat ∧ c.toNat ≤ 90))
def plain (c : UInt8) : Bool := decide (32 ≤ c.toNat ∧ c.toNat ≤ 126)
def marks : Bytes := [33, 35, 36, 37, 38, 39, 42, 43, 45, 46, 94, 95, 96, 124, 126, 58, 47]
def mark (c : UInt8) : Bool := marks.contains c
def tokc (c : UInt8) : Bool := letter c || digit c || mark c
def headc (c : UInt8) : Bool := letter c || c == 42
def token : Bytes → Bool
  | [] => false
  | c :: t => headc c && t.all tokc

structure Bare where
  kind : Nat
  int : Int
  text : Bytes
  yes : Bool

def most : Int := 999999999999999
def right (b : Bare) : Bool :=
  match b.kind with
  | 1 | 2 => decide (-most ≤ b.int) && decide (b.int ≤ most) && b.text.isEmpty && !b.yes
  | 3 => b.int == 0 && !b.yes && b.text.all plain
  | 4 => b.int == 0 && !b.yes && token b.text
  | 5 => b.int == 0 && !b.yes
  | 6 => b.int == 0 && b.text.isEmpty
  | _ => false

def sixl : Bytes := [65, 66, 67, 68, 69, 70, 71, 72, 73, 74, 75, 76, 77, 78, 79, 80, 81, 82, 83, 84, 85, 86, 87, 88, 89, 90,
  97, 98, 99, 100, 101, 102, 103, 104, 105, 106, 107, 108, 109, 110, 111, 112, 113, 114, 115, 116, 117, 118, 119, 120, 121, 122,
  48, 49, 50, 51, 52, 53, 54, 55, 56, 57, 43, 47]
def sx (n : Nat) : UInt8 := sixl.getD (n % 64) 0

/-- The four letters of up to three bytes: as many of them as 'have' says. -/
def four (n have_ : Nat) : Bytes :=
  [sx (n / 262144), sx (n / 4096), if 1 < have_ then sx (n / 64) else 61, if 2 < have_ then sx n else 61]

def sixes : Bytes → Bytes
  | [] => []
  | [a] => four (a.toNat * 65536) 1
  | [a, b] => four (a.toNat * 65536 + b.toNat * 256) 2
  | a :: b :: c :: t => four (a.toNat * 65536 + b.toNat * 256 + c.toNat) 3 ++ sixes t

/-- A letter's number. -/
def six (c : UInt8) : Option Nat := (List.range 64).find? fun i => sx i == c

/-- What sixes tell. -/
def unsix : Bytes → Option Bytes
  | [] => some []
  | [a, b, c, d] =>
    match six a, six b with
    | some x, some y =>
      if d = 61 then
        if c = 61 then if y % 16 = 0 then some [UInt8.ofNat (x * 4 + y / 16)] else none
        else match six c with
          | some z => if z % 4 = 0 then some [UInt8.ofNat (x * 4 + y / 16), UInt8.ofNat (y * 16 + z / 4)] else none
          | none => none
      else match six c, six d with
        | some z, some v => some [UInt8.ofNat (x * 4 + y / 16), UInt8.ofNat (y * 16 + z / 4), UInt8.ofNat (z * 64 + v)]
        | _, _ => none
    | _, _ => none
  | a :: b :: c :: d :: e :: t =>
    match six a, six b, six c, six d, unsix (e :: t) with
    | some x, some y, some z, some v, some l => some (UInt8.ofNat (x * 4 + y / 16) :: UInt8.ofNat (y * 16 + z / 4) :: UInt8.ofNat (z * 64 + v) :: l)
    | _, _, _, _, _ => none
  | _ => none

/-- Thousandths' last digits, without noughts at the end, one at least. -/
def part (n : Nat) : Bytes :=
  let d (k : Nat) : UInt8 := UInt8.ofNat (48 + n / k % 10)
  if n % 10 ≠ 0 then [d 100, d 10, d 1] else if n / 10 % 10 ≠ 0 then [d 100, d 10] else [d 100]

def decimal (n : Int) : Bytes :=
  (if n < 0 then [45] else []) ++ Go.Lib.decDigits (n.natAbs / 1000) ++ [46] ++ part (n.natAbs % 1000)

def quote : Bytes → Bytes
  | [] => []
  | c :: t => if c = 34 ∨ c = 92 then 92 :: c :: quote t else c :: quote t

def print (b : Bare) : Bytes :=
  match b.kind with
  | 1 => Go.Lib.itoa b.int
  | 2 => decimal b.int
  | 3 => [34] ++ quote b.text ++ [34]
  | 5 => [58] ++ sixes b.text ++ [58]
  | 6 => if b.yes then [63, 49] else [63, 48]
  | _ => b.text

def run (p : UInt8 → Bool) (s : Bytes) : Nat := (s.takeWhile p).length
def value (s : Bytes) : Nat := s.foldl (fun n c => 10 * n + (c.toNat - 48)) 0

def num (k : Nat) (n : Int) : Bare := { kind := k, int := n, text := [], yes := false }
def txt (k : Nat) (t : Bytes) : Bare := { kind := k, int := 0, text := t, yes := false }

def numberAt (sign : Int) (t : Bytes) : Option (Bare × Bytes) :=
  let n := run digit t
  if n < 1 ∨ 15 < n then none
  else match t.drop n with
    | 46 :: f =>
      let k := run digit f
      if 12 < n ∨ k < 1 ∨ 3 < k then none
      else some (num 2 (sign * (1000 * (value (t.take n) : Int) + value ((f.take k ++ [48, 48]).take 3))), f.drop k)
    | r => some (num 1 (sign * value (t.take n)), r)
def number : Bytes → Option (Bare × Bytes)
  | 45 :: t => numberAt (-1) t
  | t => numberAt 1 t

def quoted (acc : Bytes) : Bytes → Option (Bare × Bytes)
  | [] => none
  | c :: t =>
    if !plain c then none
    else if c = 34 then some (txt 3 acc, t)
    else if c = 92 then
      match t with
      | d :: t' => if d = 34 ∨ d = 92 then quoted (acc ++ [d]) t' else none
      | [] => none
    else quoted (acc ++ [c]) t

def cutAt (s : Bytes) : Option (Bytes × Bytes) :=
  match s.dropWhile (· != 58) with
  | [] => none
  | _ :: r => some (s.takeWhile (· != 58), r)

def packed (s : Bytes) : Option (Bare × Bytes) :=
  match cutAt s with
  | some (i, r) => match unsix i with
    | some x => some (txt 5 x, r)
    | none => none
  | none => none

def answer : Bytes → Option (Bare × Bytes)
  | c :: t => if c = 48 ∨ c = 49 then some ({ kind := 6, int := 0, text := [], yes := c == 49 }, t) else none
  | [] => none

def parse : Bytes → Option (Bare × Bytes)
  | [] => none
  | c :: t =>
    if digit c ∨ c = 45 then number (c :: t)
    else if headc c then some (txt 4 ((c :: t).takeWhile tokc), (c :: t).dropWhile tokc)
    else if c = 34 then quoted [] t
    else if c = 58 then packed t
    else if c = 63 then answer t
    else none
end Bs
