/- Plain functions: quoting by two replacements. -/
import Derived.Test.YtgamebffdcpjaaaGreatDoorA5
import Derived.Lib.IndexBytes
namespace Bs
open Go.Lib

def sub1 (c : UInt8) (new : Bytes) : Bytes → Bytes
  | [] => []
  | x :: t => (if x = c then new else [x]) ++ sub1 c new t

theorem replaceK_one (c : UInt8) (new : Bytes) : ∀ (s : Bytes) (k : Nat), s.count c = k → replaceK [c] new k s = sub1 c new s
  | [], k, h => by
    simp at h; subst h; rfl
  | x :: t, k, h => by
    by_cases hx : x = c
    · subst hx
      obtain ⟨k', rfl⟩ : ∃ k', k = k' + 1 := ⟨k - 1, by rw [List.count_cons_self] at h; omega⟩
      have hk : t.count x = k' := by rw [List.count_cons_self] at h; omega
      rw [replaceK_hit [x] new k' (x :: t) 0 (by rw [index_one]; simp [indexByte])]
      simp [sub1, replaceK_one x new t k' hk]
    · have hk : t.count c = k := by rw [List.count_cons_of_ne (by simpa using hx)] at h; exact h
      have ih := replaceK_one c new t k hk
      cases k with
      | zero =>
        simp only [replaceK] at ih ⊢
        simp [sub1, hx, ← ih]
      | succ k' =>
        obtain ⟨j, hj⟩ := index_of_count (s := t) (old := [c]) (by rw [count_one]; omega)
        have hj' : index (x :: t) [c] = ((j + 1 : Nat) : Int) := by
          rw [index_one] at hj ⊢
          simp [indexByte, hx, hj]
        rw [replaceK_hit [c] new k' t j hj] at ih
        rw [replaceK_hit [c] new k' (x :: t) (j + 1) hj']
        simp only [sub1, if_neg hx, ← ih]
        simp [show j + 1 + 1 = (j + 1) + 1 from rfl]

theorem replaceAll_one (c : UInt8) (new : Bytes) (hne : [c] ≠ new) (s : Bytes) : replaceAll s [c] new = sub1 c new s := by
  unfold replaceAll replace
  rw [if_neg (by simpa using hne), replaceNum, if_pos (.inl (by omega)), count_one]
  exact replaceK_one c new s _ rfl

theorem sub1_append (c : UInt8) (new a b : Bytes) : sub1 c new (a ++ b) = sub1 c new a ++ sub1 c new b := by
  induction a with
  | nil => rfl
  | cons x t ih => simp [sub1, ih]
theorem quote_two : ∀ s : Bytes, sub1 34 [92, 34] (sub1 92 [92, 92] s) = quote s
  | [] => rfl
  | x :: t => by
    have ih := quote_two t
    by_cases h92 : x = 92
    · subst h92
      simp [sub1, quote, ih]
    · by_cases h34 : x = 34
      · subst h34
        simp [sub1, quote, ih]
      · simp [sub1, quote, ih, h92, h34]
theorem sub1_len (c : UInt8) (new : Bytes) (h : new.length = 2) : ∀ s : Bytes, (sub1 c new s).length ≤ 2 * s.length
  | [] => by simp [sub1]
  | x :: t => by
    have := sub1_len c new h t
    simp only [sub1, List.length_append, List.length_cons]
    split <;> simp <;> omega
end Bs
