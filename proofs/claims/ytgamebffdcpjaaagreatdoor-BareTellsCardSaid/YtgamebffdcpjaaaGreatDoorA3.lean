/- Plain lemmas: sixes read bit by bit are what sixes tell. -/
import Derived.Test.YtgamebffdcpjaaaGreatDoorA2
import Derived.Lib.TrimByte
namespace Bs

/-- Without the marks at its end, from the left. -/
def trimR (m : UInt8) : Bytes → Bytes
  | [] => []
  | c :: t => match trimR m t with
    | [] => if c = m then [] else [c]
    | r => c :: r
theorem trimR_eq (m : UInt8) (l : Bytes) : Go.Lib.trimRightB l m = trimR m l := by
  induction l with
  | nil => rfl
  | cons c t ih =>
    unfold Go.Lib.trimRightB at ih ⊢
    rw [List.reverse_cons, List.dropWhile_append]
    cases h : (t.reverse.dropWhile (· == m)) with
    | nil =>
      rw [h] at ih
      simp only [List.reverse_nil] at ih
      simp only [List.isEmpty_nil, if_true, trimR, ← ih]
      by_cases hc : c = m <;> simp [List.dropWhile_cons, hc]
    | cons x r =>
      rw [h] at ih
      have hne : (x :: r).reverse ≠ [] := by simp
      simp only [List.isEmpty_cons, Bool.false_eq_true, if_false, trimR, ← ih]
      rw [List.reverse_append]
      cases hr : (x :: r).reverse with
      | nil => exact absurd hr hne
      | cons y q => rfl
theorem trimR_len (m : UInt8) (l : Bytes) : (trimR m l).length ≤ l.length := by
  induction l with
  | nil => simp [trimR]
  | cons c t ih =>
    simp only [trimR]
    cases h : trimR m t with
    | nil => simp only []; split <;> simp
    | cons x r => rw [h] at ih; simpa using ih

def feed (st : Nat × Nat × Bytes) (v : Nat) : Nat × Nat × Bytes :=
  let n := st.1 * 64 % 4294967296 + v
  if 8 ≤ st.2.1 + 6 then (n, st.2.1 + 6 - 8, st.2.2 ++ [UInt8.ofNat (n / 2 ^ (st.2.1 + 6 - 8))]) else (n, st.2.1 + 6, st.2.2)
def feeds : (Nat × Nat × Bytes) → Bytes → Option (Nat × Nat × Bytes)
  | st, [] => some st
  | st, c :: t => match six c with
    | none => none
    | some v => feeds (feed st v) t
def fed : Option (Nat × Nat × Bytes) → Option Bytes
  | none => none
  | some (n, bits, b) => if n % 2 ^ bits = 0 then some b else none

theorem feeds_snoc (c : UInt8) : ∀ (l : Bytes) (st : Nat × Nat × Bytes), feeds st (l ++ [c]) = (feeds st l).bind fun s => (six c).map (feed s)
  | [], st => by
    simp only [List.nil_append, feeds, Option.bind_some]
    cases six c <;> rfl
  | d :: t, st => by
    simp only [List.cons_append, feeds]
    cases six d with
    | none => rfl
    | some v => exact feeds_snoc c t _
theorem feeds_none (t : Bytes) : ∀ (l : Bytes) (st : Nat × Nat × Bytes), feeds st l = none → feeds st (l ++ t) = none
  | [], st, h => by simp [feeds] at h
  | d :: r, st, h => by
    simp only [List.cons_append, feeds] at h ⊢
    cases hd : six d with
    | none => rfl
    | some v => rw [hd] at h; exact feeds_none t r _ h

def implU (n0 : Nat) (b0 : Bytes) (s : Bytes) : Option Bytes :=
  if 2 < s.length - (trimR 61 s).length then none else fed (feeds (n0, 0, b0) (trimR 61 s))

theorem trimR_cons4 {m a b c d : UInt8} {t : Bytes} (h : trimR m t ≠ []) : trimR m (a :: b :: c :: d :: t) = a :: b :: c :: d :: trimR m t := by
  cases ht : trimR m t with
  | nil => exact absurd ht h
  | cons x r => simp only [trimR, ht]
theorem trimR_nil_all {m : UInt8} : ∀ {t : Bytes}, trimR m t = [] → ∀ c ∈ t, c = m
  | [], _, _, h => by simp at h
  | d :: t, h, c, hc => by
    simp only [trimR] at h
    cases ht : trimR m t with
    | nil =>
      rw [ht] at h
      simp only at h
      split at h
      · rename_i e
        simp only [List.mem_cons] at hc
        rcases hc with rfl | hc
        · exact e
        · exact trimR_nil_all ht c hc
      · cases h
    | cons x r => rw [ht] at h; cases h

theorem trimR_succ (m x : UInt8) (l : Bytes) : (trimR m (x :: l)).length ≤ (trimR m l).length + 1 := by
  simp only [trimR]
  cases h : trimR m l with
  | nil => simp only []; split <;> simp
  | cons y r => simp
theorem feed0 (n v : Nat) (b : Bytes) : feed (n, 0, b) v = (n * 64 % 4294967296 + v, 6, b) := by simp [feed]
theorem feed6 (n v : Nat) (b : Bytes) : feed (n, 6, b) v = (n * 64 % 4294967296 + v, 4, b ++ [UInt8.ofNat ((n * 64 % 4294967296 + v) / 16)]) := by simp [feed]
theorem feed4 (n v : Nat) (b : Bytes) : feed (n, 4, b) v = (n * 64 % 4294967296 + v, 2, b ++ [UInt8.ofNat ((n * 64 % 4294967296 + v) / 4)]) := by simp [feed]
theorem feed2 (n v : Nat) (b : Bytes) : feed (n, 2, b) v = (n * 64 % 4294967296 + v, 0, b ++ [UInt8.ofNat (n * 64 % 4294967296 + v)]) := by simp [feed]

theorem unsix_nil61 {e : UInt8} {t : Bytes} (he : e = 61) (h : (e :: t).length % 4 = 0) : unsix (e :: t) = none := by
  subst he
  match t, h with
  | [b, c, d], _ => simp [unsix, six_eq61]
  | b :: c :: d :: x :: r, _ => simp [unsix, six_eq61]
  | [], h => simp at h
  | [b], h => simp at h
  | [b, c], h => simp at h

theorem implU_eq : ∀ (s : Bytes), s.length % 4 = 0 → ∀ (n0 : Nat) (b0 : Bytes), implU n0 b0 s = (unsix s).map (b0 ++ ·)
  | [], _, n0, b0 => by simp [implU, trimR, feeds, fed, unsix, Nat.mod_one]
  | [a], h, _, _ => by simp at h
  | [a, b], h, _, _ => by simp at h
  | [a, b, c], h, _, _ => by simp at h
  | [a, b, c, d], _, n0, b0 => by
    by_cases hd : d = 61
    · by_cases hc : c = 61
      · by_cases hb : b = 61
        · have h1 : (trimR 61 [a, b, c, d]).length ≤ 1 := by
            have := trimR_succ 61 a [b, c, d]
            rw [hb, hc, hd] at this ⊢
            exact this
          have h2 : unsix [a, b, c, d] = none := by
            rw [hb]; simp only [unsix, six_eq61]; cases six a <;> rfl
          rw [implU, if_pos (by simp only [List.length_cons, List.length_nil]; omega), h2]; rfl
        · have h1 : trimR 61 [a, b, c, d] = [a, b] := by simp [trimR, hd, hc, hb]
          rw [implU, h1, if_neg (by simp)]
          cases ha : six a with
          | none => simp [feeds, ha, fed, unsix]
          | some x =>
          cases hy : six b with
          | none => simp [feeds, ha, hy, fed, unsix]
          | some y =>
          obtain ⟨hx1, _⟩ := six_lt ha
          obtain ⟨hy1, _⟩ := six_lt hy
          simp only [feeds, ha, hy, feed0, feed6, fed, unsix, hd, hc, if_true]
          by_cases hm : y % 16 = 0
          · rw [if_pos (by omega), if_pos hm]
            simp only [Option.map_some]
            congr 3
            apply u8_eq; omega
          · rw [if_neg (by omega), if_neg hm]; rfl
      · have h1 : trimR 61 [a, b, c, d] = [a, b, c] := by simp [trimR, hd, hc]
        rw [implU, h1, if_neg (by simp)]
        cases ha : six a with
        | none => simp [feeds, ha, fed, unsix]
        | some x =>
        cases hy : six b with
        | none => simp [feeds, ha, hy, fed, unsix]
        | some y =>
        cases hz : six c with
        | none => simp [feeds, ha, hy, hz, fed, unsix, hd, hc]
        | some z =>
        obtain ⟨hx1, _⟩ := six_lt ha
        obtain ⟨hy1, _⟩ := six_lt hy
        obtain ⟨hz1, _⟩ := six_lt hz
        simp only [feeds, ha, hy, hz, feed0, feed6, feed4, fed, unsix, hd, hc, if_true, if_false]
        by_cases hm : z % 4 = 0
        · rw [if_pos (by omega), if_pos hm]
          simp only [Option.map_some, List.append_assoc, List.cons_append, List.nil_append]
          congr 3
          · apply u8_eq; omega
          · congr 1; apply u8_eq; omega
        · rw [if_neg (by omega), if_neg hm]; rfl
    · have h1 : trimR 61 [a, b, c, d] = [a, b, c, d] := by simp [trimR, hd]
      rw [implU, h1, if_neg (by simp)]
      cases ha : six a with
      | none => simp [feeds, ha, fed, unsix]
      | some x =>
      cases hy : six b with
      | none => simp [feeds, ha, hy, fed, unsix]
      | some y =>
      cases hz : six c with
      | none => simp [feeds, ha, hy, hz, fed, unsix, hd]
      | some z =>
      cases hv : six d with
      | none => simp [feeds, ha, hy, hz, hv, fed, unsix, hd]
      | some v =>
      obtain ⟨hx1, _⟩ := six_lt ha
      obtain ⟨hy1, _⟩ := six_lt hy
      obtain ⟨hz1, _⟩ := six_lt hz
      obtain ⟨hv1, _⟩ := six_lt hv
      simp only [feeds, ha, hy, hz, hv, feed0, feed6, feed4, feed2, fed, unsix, hd, if_false]
      rw [if_pos (by omega)]
      simp only [Option.map_some, List.append_assoc, List.cons_append, List.nil_append]
      congr 3
      · apply u8_eq; omega
      · congr 1
        · apply u8_eq; omega
        · congr 1; apply u8_eq; omega
  | a :: b :: c :: d :: e :: t, h, n0, b0 => by
    have hl : (e :: t).length % 4 = 0 := by simp only [List.length_cons] at h ⊢; omega
    have ih := implU_eq (e :: t) hl
    by_cases ht : trimR 61 (e :: t) = []
    · have hlen : (trimR 61 (a :: b :: c :: d :: e :: t)).length ≤ 4 := by
        have h1 := trimR_succ 61 a (b :: c :: d :: e :: t)
        have h2 := trimR_succ 61 b (c :: d :: e :: t)
        have h3 := trimR_succ 61 c (d :: e :: t)
        have h4 := trimR_succ 61 d (e :: t)
        rw [ht] at h4
        simp only [List.length_nil] at h4
        omega
      have he : e = 61 := trimR_nil_all ht e (by simp)
      have hu := unsix_nil61 he hl
      rw [implU, if_pos (by simp only [List.length_cons] at hl ⊢; omega)]
      simp only [unsix, hu]
      cases six a <;> cases six b <;> cases six c <;> cases six d <;> rfl
    · have hr := trimR_cons4 (a := a) (b := b) (c := c) (d := d) ht
      have hle := trimR_len 61 (e :: t)
      rw [implU, hr]
      cases ha : six a with
      | none => simp [feeds, ha, fed, unsix]
      | some x =>
      cases hy : six b with
      | none => simp [feeds, ha, hy, fed, unsix]
      | some y =>
      cases hz : six c with
      | none => simp [feeds, ha, hy, hz, fed, unsix]
      | some z =>
      cases hv : six d with
      | none => simp [feeds, ha, hy, hz, hv, fed, unsix]
      | some v =>
      obtain ⟨hx1, _⟩ := six_lt ha
      obtain ⟨hy1, _⟩ := six_lt hy
      obtain ⟨hz1, _⟩ := six_lt hz
      obtain ⟨hv1, _⟩ := six_lt hv
      simp only [feeds, ha, hy, hz, hv, feed0, feed6, feed4, feed2, unsix]
      have := ih ((((n0 * 64 % 4294967296 + x) * 64 % 4294967296 + y) * 64 % 4294967296 + z) * 64 % 4294967296 + v) (b0 ++ [UInt8.ofNat (x * 4 + y / 16), UInt8.ofNat (y * 16 + z / 4), UInt8.ofNat (z * 64 + v)])
      rw [implU] at this
      have e1 : UInt8.ofNat (((n0 * 64 % 4294967296 + x) * 64 % 4294967296 + y) / 16) = UInt8.ofNat (x * 4 + y / 16) := by apply u8_eq; omega
      have e2 : UInt8.ofNat ((((n0 * 64 % 4294967296 + x) * 64 % 4294967296 + y) * 64 % 4294967296 + z) / 4) = UInt8.ofNat (y * 16 + z / 4) := by apply u8_eq; omega
      have e3 : UInt8.ofNat ((((n0 * 64 % 4294967296 + x) * 64 % 4294967296 + y) * 64 % 4294967296 + z) * 64 % 4294967296 + v) = UInt8.ofNat (z * 64 + v) := by apply u8_eq; omega
      rw [e1, e2, e3]
      simp only [List.append_assoc, List.cons_append, List.nil_append, List.length_cons] at this ⊢
      have e4 : t.length + 1 + 1 + 1 + 1 + 1 - ((trimR 61 (e :: t)).length + 1 + 1 + 1 + 1) = t.length + 1 - (trimR 61 (e :: t)).length := by
        simp only [List.length_cons] at hle; omega
      rw [e4, this]
      cases unsix (e :: t) <;> simp

theorem unsix_len : ∀ s : Bytes, ¬ s.length % 4 = 0 → unsix s = none
  | [], h => by simp at h
  | [_], _ => rfl
  | [_, _], _ => rfl
  | [_, _, _], _ => rfl
  | [_, _, _, _], h => by simp at h
  | a :: b :: c :: d :: e :: t, h => by
    have := unsix_len (e :: t) (by simp only [List.length_cons] at h ⊢; omega)
    simp only [unsix, this]
    cases six a <;> cases six b <;> cases six c <;> cases six d <;> rfl

theorem unsix_impl (s : Bytes) : unsix s = if s.length % 4 ≠ 0 ∨ 2 < s.length - (trimR 61 s).length then none else fed (feeds (0, 0, []) (trimR 61 s)) := by
  by_cases h : s.length % 4 = 0
  · have := implU_eq s h 0 []
    have e : (unsix s).map ([] ++ ·) = unsix s := by cases unsix s <;> simp
    rw [e, implU] at this
    rw [← this]
    by_cases h2 : 2 < s.length - (trimR 61 s).length
    · rw [if_pos h2, if_pos (.inr h2)]
    · rw [if_neg h2, if_neg (by omega)]
  · rw [if_pos (.inl h)]
    exact unsix_len s h
end Bs
