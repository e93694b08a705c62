/- Walks: tokens, and how many bytes are so at a text's beginning. -/
import Derived.Test.YtgamebffdcpjaaaGreatDoorW1
import Derived.Shelf.Strings.Search3
import Derived.Test.YtgamebffdcpjaaaGreatDoorShelf
namespace Go.Proofs.YtgamebffdcpjaaaGreatDoor
open Go.RowKit

/-! ### Plain: what the loops hold -/
/-- All of the first k bytes of a text may stand in a token, the first one at its head. -/
def tokTo (l : Bs.Bytes) (k : Nat) : Prop := ∀ j, j < k → (if j = 0 then Bs.headc (l.getD j 0) else Bs.tokc (l.getD j 0)) = true

theorem getD_cons {c : UInt8} {t : Bs.Bytes} {j : Nat} : (c :: t).getD (j + 1) 0 = t.getD j 0 := by simp
theorem headc_tokc {c : UInt8} (h : Bs.headc c = true) : Bs.tokc c = true := by
  unfold Bs.headc at h
  simp only [Bool.or_eq_true, beq_iff_eq] at h
  rcases h with h | rfl
  · simp [Bs.tokc, h]
  · decide +kernel
theorem token_yes {l : Bs.Bytes} (hl : l ≠ []) (h : tokTo l l.length) : Bs.token l = true := by
  cases l with
  | nil => exact absurd rfl hl
  | cons c t =>
    have h0 := h 0 (by simp)
    simp only [if_true, List.getD_cons_zero] at h0
    simp only [Bs.token, h0, Bool.true_and, List.all_eq_true]
    intro x hx
    obtain ⟨j, hj, e⟩ := List.getElem_of_mem hx
    have h1 := h (j + 1) (by simp; omega)
    rw [if_neg (by omega), getD_cons, List.getD_eq_getElem?_getD, List.getElem?_eq_getElem hj] at h1
    rw [← e]; exact h1
theorem token_no {l : Bs.Bytes} {k : Nat} (hk : k < l.length) (h : (if k = 0 then Bs.headc (l.getD k 0) else Bs.tokc (l.getD k 0)) = false) : Bs.token l = false := by
  cases l with
  | nil => simp at hk
  | cons c t =>
    by_cases e : k = 0
    · subst e
      simp only [if_true, List.getD_cons_zero] at h
      simp [Bs.token, h]
    · obtain ⟨j, rfl⟩ : ∃ j, k = j + 1 := ⟨k - 1, by omega⟩
      rw [if_neg (by omega), getD_cons] at h
      have hj : j < t.length := by simpa using hk
      have : t.all Bs.tokc = false := by
        rw [List.all_eq_false]
        refine ⟨t.getD j 0, ?_, by rw [h]; simp⟩
        rw [List.getD_eq_getElem?_getD, List.getElem?_eq_getElem hj]; exact List.getElem_mem _
      rw [Bs.token, this, Bool.and_false]

theorem mark_index (c : UInt8) : (Lib.indexByte Bs.marks c < 0) ↔ Bs.mark c = false := by
  have h : ∀ n, n < 256 → (decide (Lib.indexByte Bs.marks (UInt8.ofNat n) < 0)) = !(Bs.mark (UInt8.ofNat n)) := by decide +kernel
  have := h c.toNat c.toNat_lt
  rw [UInt8.ofNat_toNat] at this
  by_cases hm : Bs.mark c = true <;> simp_all

theorem mark_index' (c : UInt8) : (0 ≤ Lib.indexByte Bs.marks c) ↔ Bs.mark c = true := by
  have := mark_index c
  cases h : Bs.mark c <;> simp_all <;> omega
theorem ne42 (c : UInt8) : ((c.toNat : Int) != 42) = !(c == 42) := by
  have : ((c.toNat : Int) == ((42 : UInt8).toNat : Int)) = (c == 42) := by
    rw [Bool.eq_iff_iff, beqU8, beq_iff_eq]
  rw [bne, ← this]; rfl
theorem eq42 (c : UInt8) : ((c.toNat : Int) = 42) ↔ c = 42 := by
  rw [← UInt8.toNat_inj]; simp; omega
theorem keq0 (k : Nat) : ((k : Int) == 0) = decide (k = 0) := by
  rw [Bool.eq_iff_iff]; simp
theorem idx_lt (c : UInt8) : (Lib.indexByte [33, 35, 36, 37, 38, 39, 42, 43, 45, 46, 94, 95, 96, 124, 126, 58, 47] c < 0) ↔ Bs.mark c = false := mark_index c
theorem idx_ge (c : UInt8) : (0 ≤ Lib.indexByte [33, 35, 36, 37, 38, 39, 42, 43, 45, 46, 94, 95, 96, 124, 126, 58, 47] c) ↔ Bs.mark c = true := mark_index' c
def okAt (k : Nat) (c : UInt8) : Bool := if k = 0 then Bs.headc c else Bs.tokc c
theorem tokTo_succ {l : Bs.Bytes} {k : Nat} {c : UInt8} (h : tokTo l k) (e : c = l.getD k 0) (hk : okAt k c = true) : tokTo l (k + 1) := by
  intro j hj
  by_cases e' : j = k
  · subst e'; rw [← e]; exact hk
  · exact h j (by omega)
theorem tokAt_no {l : Bs.Bytes} {k : Nat} {c : UInt8} (hk : k < l.length) (e : c = l.getD k 0) (h : okAt k c = false) : Bs.token l = false := by
  subst e; exact token_no hk h
theorem tok_all {s : ByteArray} (ht : tokTo s.data.toList s.size) : Bs.token s.data.toList = !s.data.toList.isEmpty := by
  by_cases h : s.data.toList = []
  · rw [h]; rfl
  · rw [token_yes h (by simpa using ht)]
    simpa using h

theorem ok_letter {k : Nat} {c : UInt8} (h : Bs.letter c = true) : okAt k c = true := by
  unfold okAt; split <;> simp [Bs.headc, Bs.tokc, h]
theorem ok_star {k : Nat} {c : UInt8} (h : (c.toNat : Int) = 42) : okAt k c = true := by
  obtain rfl := (eq42 c).1 h
  unfold okAt; split <;> decide +kernel
theorem ok_digit {k : Nat} {c : UInt8} (hk : k ≠ 0) (h : Bs.digit c = true) : okAt k c = true := by
  simp [okAt, hk, Bs.tokc, h]
theorem ok_mark {k : Nat} {c : UInt8} (hk : k ≠ 0) (h : ((c.toNat : Int) != 42) = false ∨ 0 ≤ Lib.indexByte [33, 35, 36, 37, 38, 39, 42, 43, 45, 46, 94, 95, 96, 124, 126, 58, 47] c) : okAt k c = true := by
  rcases h with h | h
  · rw [ne42] at h; exact ok_star ((eq42 c).2 (by simpa using h))
  · simp [okAt, hk, Bs.tokc, (idx_ge c).1 h]
theorem no_head {k : Nat} {c : UInt8} (hk : k = 0) (h1 : ¬ Bs.letter c = true) (h2 : ¬ (c.toNat : Int) = 42) : okAt k c = false := by
  rw [eq42] at h2
  simp [okAt, hk, Bs.headc, h1, h2]
theorem no_tok {k : Nat} {c : UInt8} (hk : k ≠ 0) (h1 : ¬ Bs.letter c = true) (h2 : ¬ Bs.digit c = true) {p : Prop} (h3 : p ∧ Lib.indexByte [33, 35, 36, 37, 38, 39, 42, 43, 45, 46, 94, 95, 96, 124, 126, 58, 47] c < 0) : okAt k c = false := by
  simp [okAt, hk, Bs.tokc, h1, h2, (idx_lt c).1 h3.2]

theorem token_calls (s : ByteArray) (w : World) (hs : s.size ≤ maxLen) :
    Calls Tryz.prog 22 #[.string s] w fun e w' => e = .returned (.bool (Bs.token s.data.toList)) ∧ w = w' := by
  unfold maxLen at hs
  go_enter Tryz.func22, Tryz.ntmps22
  go_wp2
  go_loop [3, 7] (fun _ i => ∃ k : Nat, k ≤ s.size ∧ i = .int .i64 k ∧ tokTo s.data.toList k) (fun _ i => s.size - (intOf i).toNat)
  case atStart => exact ⟨0, by omega, rfl, by intro j hj; omega⟩
  case round =>
    obtain ⟨k, hk, rfl, ht⟩ := hrel
    by_cases hlt : k < s.size
    · have HG := Lib.hid (ba_get s k hlt)
      have hb := s[k].toNat_lt
      obtain ⟨c, hc⟩ : ∃ c, c = s[k] := ⟨_, rfl⟩
      have HC := Lib.hid hc
      by_cases hk0 : k = 0
      · have hk1 : ((k : Int) == 0) = true := by simp [hk0]
        have HK := Lib.hid hk0
        clear hk0 hc
        go_wp2_with (first | (go_at_call 70; refine (letter_calls _ _).mono ?_; rintro e w' ⟨rfl, rfl⟩) | (go_at_call 68; refine (digit_calls _ _).mono ?_; rintro e w' ⟨rfl, rfl⟩) | (go_at_call 81; refine (Tryz.strings_IndexByte _ _ _).mono ?_; rintro e w' ⟨rfl, rfl⟩))
        all_goals first
          | exact ⟨⟨k + 1, by omega, by go_num, tokTo_succ ht HG.out (by first | exact ok_letter ‹_› | exact ok_star ‹_›)⟩, by simp [intOf]; omega⟩
          | (go_ret; exact ⟨ret_bool (tokAt_no (by simpa using hlt) HG.out (no_head HK.out ‹_› ‹_›)).symm, rfl⟩)
      · have hk1 : ((k : Int) == 0) = false := by simp [hk0]
        clear hc
        go_wp2_with (first | (go_at_call 70; refine (letter_calls _ _).mono ?_; rintro e w' ⟨rfl, rfl⟩) | (go_at_call 68; refine (digit_calls _ _).mono ?_; rintro e w' ⟨rfl, rfl⟩) | (go_at_call 81; refine (Tryz.strings_IndexByte _ _ _).mono ?_; rintro e w' ⟨rfl, rfl⟩))
        all_goals first
          | exact ⟨⟨k + 1, by omega, by go_num, tokTo_succ ht HG.out (by first | exact ok_letter ‹_› | exact ok_star ‹_› | exact ok_digit hk0 ‹_› | exact ok_mark hk0 ‹_›)⟩, by simp [intOf]; omega⟩
          | (go_ret; exact ⟨ret_bool (tokAt_no (by simpa using hlt) HG.out (no_tok hk0 ‹_› ‹_› ‹_›)).symm, rfl⟩)
    · go_wp2
      go_ret
      obtain rfl : k = s.size := by omega
      exact ⟨ret_bool (by rw [tok_all ht, ByteArray.toList_eq]), rfl⟩
end Go.Proofs.YtgamebffdcpjaaaGreatDoor
