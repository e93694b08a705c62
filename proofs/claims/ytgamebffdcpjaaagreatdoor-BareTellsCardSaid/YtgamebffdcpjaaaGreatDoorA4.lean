/- Plain functions: decimal numerals, as both tell them. -/
import Derived.Test.YtgamebffdcpjaaaGreatDoorA2
namespace Bs
open Go.Lib

/-- The digits of a number, so many at least, ahead of what is there already. -/
def rdg (n least : Nat) (acc : Bytes) : Bytes :=
  if h : n = 0 ∧ least = 0 then acc else rdg (n / 10) (least - 1) (UInt8.ofNat (48 + n % 10) :: acc)
termination_by n + least
decreasing_by omega

theorem rdg_nil (acc : Bytes) : rdg 0 0 acc = acc := by rw [rdg]; simp
theorem rdg_step {n least : Nat} (h : ¬ (n = 0 ∧ least = 0)) (acc : Bytes) : rdg n least acc = rdg (n / 10) (least - 1) (UInt8.ofNat (48 + n % 10) :: acc) := by
  rw [rdg, dif_neg h]
theorem dec_hi {n : Nat} (h : ¬ n < 10) : decDigits n = decDigits (n / 10) ++ [UInt8.ofNat (48 + n % 10)] := by rw [decDigits, dif_neg h]
theorem rdg_zero : ∀ (n : Nat) (acc : Bytes), rdg n 0 acc = (if n = 0 then [] else decDigits n) ++ acc := by
  intro n
  induction n using Nat.strongRecOn with
  | _ n ih =>
    intro acc
    by_cases h : n = 0
    · subst h; rw [rdg_nil]; rfl
    · rw [rdg_step (by omega), if_neg h]
      rw [show (0 : Nat) - 1 = 0 from rfl, ih (n / 10) (by omega)]
      by_cases h10 : n < 10
      · rw [decDigits_one h10, if_pos (by omega), Nat.mod_eq_of_lt h10]; rfl
      · rw [dec_hi h10, if_neg (by omega)]; simp
theorem rdg_one (n : Nat) : rdg n 1 [] = decDigits n := by
  rw [rdg_step (by omega), show 1 - 1 = 0 from rfl, rdg_zero]
  by_cases h10 : n < 10
  · rw [decDigits_one h10, if_pos (by omega), Nat.mod_eq_of_lt h10]; rfl
  · rw [dec_hi h10, if_neg (by omega)]
theorem rdg_three {n : Nat} (h : n < 1000) : rdg n 3 [] = [UInt8.ofNat (48 + n / 100 % 10), UInt8.ofNat (48 + n / 10 % 10), UInt8.ofNat (48 + n % 10)] := by
  rw [rdg_step (by omega), rdg_step (by omega), rdg_step (by omega)]
  rw [show 3 - 1 - 1 - 1 = 0 from rfl, show n / 10 / 10 / 10 = 0 from by omega, rdg_nil, show n / 10 / 10 = n / 100 from by omega]
theorem itoa_1000 {n : Nat} (h : n < 1000) : (itoa (1000 + (n : Int))).drop 1 = [UInt8.ofNat (48 + n / 100 % 10), UInt8.ofNat (48 + n / 10 % 10), UInt8.ofNat (48 + n % 10)] := by
  unfold itoa
  rw [if_neg (by omega), show (1000 + (n : Int)).toNat = 1000 + n from by omega]
  rw [dec_hi (by omega), dec_hi (by omega), dec_hi (by omega), decDigits_one (by omega)]
  rw [show (1000 + n) / 10 / 10 / 10 = 1 from by omega]
  have e1 : (1000 + n) / 10 / 10 % 10 = n / 100 % 10 := by omega
  have e2 : (1000 + n) / 10 % 10 = n / 10 % 10 := by omega
  have e3 : (1000 + n) % 10 = n % 10 := by omega
  rw [e1, e2, e3]; rfl

theorem ofNat48 {a : Nat} (h : a < 10) : (UInt8.ofNat (48 + a) = 48) ↔ a = 0 := by
  constructor
  · intro e
    have := congrArg UInt8.toNat e
    simp at this
    omega
  · rintro rfl; rfl
/-- The last digits without noughts at the end, one at least: how the reference strips them. -/
theorem part_eq (n : Nat) : part n = if n % 10 ≠ 0 then [UInt8.ofNat (48 + n / 100 % 10), UInt8.ofNat (48 + n / 10 % 10), UInt8.ofNat (48 + n % 10)]
    else if n / 10 % 10 ≠ 0 then [UInt8.ofNat (48 + n / 100 % 10), UInt8.ofNat (48 + n / 10 % 10)] else [UInt8.ofNat (48 + n / 100 % 10)] := by
  simp [part]
theorem sixes_len : ∀ l : Bytes, (sixes l).length ≤ 2 * l.length + 4
  | [] => by simp [sixes]
  | [_] => by simp [sixes, four]
  | [_, _] => by simp [sixes, four]
  | _ :: _ :: _ :: t => by
    have := sixes_len t
    simp [sixes, four]; omega
end Bs
