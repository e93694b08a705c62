/- Plain functions: bytes three by three. -/
import Derived.Test.YtgamebffdcpjaaaGreatDoorA4
namespace Bs

/-- Three bytes' number, and how many bytes there were. -/
abbrev Three := { x : Nat × Nat // x.1 < 16777216 ∧ 1 ≤ x.2 ∧ x.2 ≤ 3 }
def three1 (a : UInt8) : Three := ⟨(a.toNat * 65536, 1), by have := a.toNat_lt; simp; omega, by simp, by simp⟩
def three2 (a b : UInt8) : Three := ⟨(a.toNat * 65536 + b.toNat * 256, 2), by have := a.toNat_lt; have := b.toNat_lt; simp; omega, by simp, by simp⟩
def three3 (a b c : UInt8) : Three := ⟨(a.toNat * 65536 + b.toNat * 256 + c.toNat, 3), by have := a.toNat_lt; have := b.toNat_lt; have := c.toNat_lt; simp; omega, by simp, by simp⟩
def chunks : Bytes → List Three
  | [] => []
  | [a] => [three1 a]
  | [a, b] => [three2 a b]
  | a :: b :: c :: t => three3 a b c :: chunks t
def fours (l : List Three) : Bytes := l.flatMap fun x => four x.1.1 x.1.2
theorem sixes_chunks : ∀ s : Bytes, fours (chunks s) = sixes s
  | [] => rfl
  | [_] => by simp [chunks, fours, sixes, three1]
  | [_, _] => by simp [chunks, fours, sixes, three2]
  | a :: b :: c :: t => by
    have := sixes_chunks t
    simp only [fours] at this
    simp [chunks, fours, sixes, three3, this]
theorem fours_snoc (l : List Three) (x : Three) : fours (l ++ [x]) = fours l ++ four x.1.1 x.1.2 := by simp [fours]
theorem chunks_len : ∀ s : Bytes, (chunks s).length ≤ s.length
  | [] => by simp [chunks]
  | [_] => by simp [chunks]
  | [_, _] => by simp [chunks]
  | a :: b :: c :: t => by
    have := chunks_len t
    simp [chunks]; omega
theorem fours_len (l : List Three) : (fours l).length = 4 * l.length := by
  induction l with
  | nil => rfl
  | cons x t ih =>
    have e : fours (x :: t) = four x.1.1 x.1.2 ++ fours t := by simp [fours]
    rw [e, List.length_append, ih, List.length_cons]
    have : (four x.1.1 x.1.2).length = 4 := rfl
    omega
end Bs
