/- Plain lemmas on sixes (base 64): what is told is read back. -/
import Derived.Test.YtgamebffdcpjaaaGreatDoorA1
namespace Bs
theorem six_lt {c : UInt8} {i : Nat} (h : six c = some i) : i < 64 ∧ sx i = c := by
  unfold six at h
  have h1 := List.mem_of_find?_eq_some h
  have h2 := List.find?_some h
  exact ⟨by simpa using h1, by simpa using h2⟩
theorem six_sx (n : Nat) : six (sx n) = some (n % 64) := by
  have h : ∀ k, k < 64 → six (sx k) = some k := by decide +kernel
  have e : sx n = sx (n % 64) := by simp [sx]
  rw [e]; exact h _ (Nat.mod_lt _ (by omega))
theorem six_eq61 : six 61 = none := by decide +kernel
theorem sx_ne61 (n : Nat) : sx n ≠ 61 := fun h => by have := six_sx n; rw [h, six_eq61] at this; cases this
theorem sx_mod (n : Nat) : sx (n % 64) = sx n := by simp [sx]

theorem unsix_sixes : ∀ x : Bytes, unsix (sixes x) = some x
  | [] => rfl
  | [a] => by
    have ha := a.toNat_lt
    simp only [sixes, four, unsix, six_sx, sx_mod]
    simp only [if_true, Nat.lt_irrefl, if_false, show ¬ (2 < 1) by omega]
    rw [if_pos (by omega)]
    congr 2
    rw [show a.toNat * 65536 / 262144 % 64 * 4 + a.toNat * 65536 / 4096 % 64 / 16 = a.toNat by omega]
    simp
  | [a, b] => by
    have ha := a.toNat_lt
    have hb := b.toNat_lt
    simp only [sixes, four, unsix, six_sx, sx_mod, show 1 < 2 by omega, if_true, Nat.lt_irrefl, if_false, sx_ne61]
    rw [if_pos (by omega)]
    congr 2
    · rw [show (a.toNat * 65536 + b.toNat * 256) / 262144 % 64 * 4 + (a.toNat * 65536 + b.toNat * 256) / 4096 % 64 / 16 = a.toNat by omega]; simp
    · congr 1
      apply UInt8.toNat_inj.1
      rw [UInt8.toNat_ofNat']
      omega
  | a :: b :: c :: t => by
    have ha := a.toNat_lt
    have hb := b.toNat_lt
    have hc := c.toNat_lt
    have e1 : UInt8.ofNat ((a.toNat * 65536 + b.toNat * 256 + c.toNat) / 262144 % 64 * 4 + (a.toNat * 65536 + b.toNat * 256 + c.toNat) / 4096 % 64 / 16) = a := by
      apply UInt8.toNat_inj.1; rw [UInt8.toNat_ofNat']; omega
    have e2 : UInt8.ofNat ((a.toNat * 65536 + b.toNat * 256 + c.toNat) / 4096 % 64 * 16 + (a.toNat * 65536 + b.toNat * 256 + c.toNat) / 64 % 64 / 4) = b := by
      apply UInt8.toNat_inj.1; rw [UInt8.toNat_ofNat']; omega
    have e3 : UInt8.ofNat ((a.toNat * 65536 + b.toNat * 256 + c.toNat) / 64 % 64 * 64 + (a.toNat * 65536 + b.toNat * 256 + c.toNat) % 64) = c := by
      apply UInt8.toNat_inj.1; rw [UInt8.toNat_ofNat']; omega
    have ih := unsix_sixes t
    cases hs : sixes t with
    | nil =>
      rw [hs] at ih
      simp only [sixes, four, hs, List.append_nil, unsix, six_sx, show 1 < 3 by omega, show 2 < 3 by omega, if_true, sx_ne61, if_false, e1, e2, e3]
      simp only [unsix, Option.some.injEq] at ih
      rw [← ih]
    | cons e r =>
      rw [hs] at ih
      simp only [sixes, four, hs, List.cons_append, List.nil_append, unsix, six_sx, show 1 < 3 by omega, show 2 < 3 by omega, if_true, e1, e2, e3, ih]

theorem four_eq {x y z v n : Nat} (hx : x < 64) (hy : y < 64) (hz : z < 64) (hv : v < 64) (h : n = x * 262144 + y * 4096 + z * 64 + v) (k : Nat) :
    four n k = [sx x, sx y, if 1 < k then sx z else 61, if 2 < k then sx v else 61] := by
  subst h
  have h1 : (x * 262144 + y * 4096 + z * 64 + v) / 262144 = x := by omega
  have h2 : (x * 262144 + y * 4096 + z * 64 + v) / 4096 % 64 = y := by omega
  have h3 : (x * 262144 + y * 4096 + z * 64 + v) / 64 % 64 = z := by omega
  have h4 : (x * 262144 + y * 4096 + z * 64 + v) % 64 = v := by omega
  unfold four
  rw [h1, ← sx_mod (_ / 4096), h2, ← sx_mod (_ / 64), h3, ← sx_mod (x * 262144 + y * 4096 + z * 64 + v), h4]

theorem sixes_unsix : ∀ (s x : Bytes), unsix s = some x → sixes x = s
  | [], x, h => by simp [unsix] at h; subst h; rfl
  | [a], x, h => by simp [unsix] at h
  | [a, b], x, h => by simp [unsix] at h
  | [a, b, c], x, h => by simp [unsix] at h
  | [a, b, c, d], w, h => by
    simp only [unsix] at h
    cases ha : six a with
    | none => simp [ha] at h
    | some x =>
    cases hb : six b with
    | none => simp [ha, hb] at h
    | some y =>
    obtain ⟨hx, ex⟩ := six_lt ha
    obtain ⟨hy, ey⟩ := six_lt hb
    simp only [ha, hb] at h
    by_cases hd : d = 61
    · by_cases hc : c = 61
      · by_cases hm : y % 16 = 0
        · simp only [hd, hc, hm, if_true, Option.some.injEq] at h
          subst h
          simp only [sixes]
          rw [four_eq hx hy (z := 0) (v := 0) (by omega) (by omega) (by rw [UInt8.toNat_ofNat']; omega), ex, ey, hd, hc]
          simp
        · simp [hd, hc, hm] at h
      · cases hz : six c with
        | none => simp [hd, hc, hz] at h
        | some z =>
        obtain ⟨hz', ez⟩ := six_lt hz
        by_cases hm : z % 4 = 0
        · simp only [hd, hc, hz, hm, if_true, if_false, Option.some.injEq] at h
          subst h
          simp only [sixes]
          rw [four_eq hx hy (z := z) (v := 0) (by omega) (by omega) (by rw [UInt8.toNat_ofNat', UInt8.toNat_ofNat']; omega), ex, ey, ez, hd]
          simp
        · simp [hd, hc, hz, hm] at h
    · cases hz : six c with
      | none => simp [hd, hz] at h
      | some z =>
      cases hv : six d with
      | none => simp [hd, hz, hv] at h
      | some v =>
      obtain ⟨hz', ez⟩ := six_lt hz
      obtain ⟨hv', ev⟩ := six_lt hv
      simp only [hd, hz, hv, if_false, Option.some.injEq] at h
      subst h
      simp only [sixes, List.append_nil]
      rw [four_eq hx hy (z := z) (v := v) (by omega) (by omega) (by rw [UInt8.toNat_ofNat', UInt8.toNat_ofNat', UInt8.toNat_ofNat']; omega), ex, ey, ez, ev]
      simp
  | a :: b :: c :: d :: e :: t, w, h => by
    simp only [unsix] at h
    cases ha : six a with
    | none => simp [ha] at h
    | some x =>
    cases hb : six b with
    | none => simp [ha, hb] at h
    | some y =>
    cases hz : six c with
    | none => simp [ha, hb, hz] at h
    | some z =>
    cases hv : six d with
    | none => simp [ha, hb, hz, hv] at h
    | some v =>
    cases hu : unsix (e :: t) with
    | none => simp [ha, hb, hz, hv, hu] at h
    | some l =>
    obtain ⟨hx, ex⟩ := six_lt ha
    obtain ⟨hy, ey⟩ := six_lt hb
    obtain ⟨hz', ez⟩ := six_lt hz
    obtain ⟨hv', ev⟩ := six_lt hv
    simp only [ha, hb, hz, hv, hu, Option.some.injEq] at h
    subst h
    simp only [sixes]
    rw [sixes_unsix (e :: t) l hu, four_eq hx hy (z := z) (v := v) (by omega) (by omega) (by rw [UInt8.toNat_ofNat', UInt8.toNat_ofNat', UInt8.toNat_ofNat']; omega), ex, ey, ez, ev]
    simp

/-- What the document's text reads of four letters: missing ones count nought. -/
def rcount (a b c d : UInt8) : Nat := (if (six a).isSome then 1 else 0) + (if (six b).isSome then 1 else 0) + (if (six c).isSome then 1 else 0) + (if (six d).isSome then 1 else 0)
def rnum (a b c d : UInt8) : Nat := (six a).getD 0 * 262144 + (six b).getD 0 * 4096 + (six c).getD 0 * 64 + (six d).getD 0
def rthree (n : Nat) : Bytes := [UInt8.ofNat (n / 65536), UInt8.ofNat (n / 256), UInt8.ofNat n]
def rdec : Bytes → Option Bytes
  | a :: b :: c :: d :: t => if rcount a b c d < 2 then none else (rdec t).map ((rthree (rnum a b c d)).take (rcount a b c d - 1) ++ ·)
  | _ => some []

theorem u8_eq {a b : Nat} (h : a % 256 = b % 256) : UInt8.ofNat a = UInt8.ofNat b := by
  apply UInt8.toNat_inj.1; rw [UInt8.toNat_ofNat', UInt8.toNat_ofNat']; omega

theorem rdec_unsix : ∀ (s x : Bytes), unsix s = some x → rdec s = some x
  | [], x, h => by simp [unsix] at h; subst h; rfl
  | [a], x, h => by simp [unsix] at h
  | [a, b], x, h => by simp [unsix] at h
  | [a, b, c], x, h => by simp [unsix] at h
  | [a, b, c, d], w, h => by
    simp only [unsix] at h
    cases ha : six a with
    | none => simp [ha] at h
    | some x =>
    cases hb : six b with
    | none => simp [ha, hb] at h
    | some y =>
    obtain ⟨hx, ex⟩ := six_lt ha
    obtain ⟨hy, ey⟩ := six_lt hb
    simp only [ha, hb] at h
    by_cases hd : d = 61
    · by_cases hc : c = 61
      · by_cases hm : y % 16 = 0
        · simp only [hd, hc, hm, if_true, Option.some.injEq] at h
          subst h
          simp [-UInt8.ofNat_add, -UInt8.ofNat_mul, rdec, rcount, rnum, rthree, ha, hb, hc, hd, six_eq61]
          apply u8_eq; omega
        · simp [hd, hc, hm] at h
      · cases hz : six c with
        | none => simp [hd, hc, hz] at h
        | some z =>
        obtain ⟨hz', ez⟩ := six_lt hz
        by_cases hm : z % 4 = 0
        · simp only [hd, hc, hz, hm, if_true, if_false, Option.some.injEq] at h
          subst h
          simp [-UInt8.ofNat_add, -UInt8.ofNat_mul, rdec, rcount, rnum, rthree, ha, hb, hz, hd, six_eq61]
          constructor <;> (apply u8_eq; omega)
        · simp [hd, hc, hz, hm] at h
    · cases hz : six c with
      | none => simp [hd, hz] at h
      | some z =>
      cases hv : six d with
      | none => simp [hd, hz, hv] at h
      | some v =>
      obtain ⟨hz', ez⟩ := six_lt hz
      obtain ⟨hv', ev⟩ := six_lt hv
      simp only [hd, hz, hv, if_false, Option.some.injEq] at h
      subst h
      simp [-UInt8.ofNat_add, -UInt8.ofNat_mul, rdec, rcount, rnum, rthree, ha, hb, hz, hv]
      refine ⟨?_, ?_, ?_⟩ <;> (apply u8_eq; omega)
  | a :: b :: c :: d :: e :: t, w, h => by
    simp only [unsix] at h
    cases ha : six a with
    | none => simp [ha] at h
    | some x =>
    cases hb : six b with
    | none => simp [ha, hb] at h
    | some y =>
    cases hz : six c with
    | none => simp [ha, hb, hz] at h
    | some z =>
    cases hv : six d with
    | none => simp [ha, hb, hz, hv] at h
    | some v =>
    cases hu : unsix (e :: t) with
    | none => simp [ha, hb, hz, hv, hu] at h
    | some l =>
    obtain ⟨hx, ex⟩ := six_lt ha
    obtain ⟨hy, ey⟩ := six_lt hb
    obtain ⟨hz', ez⟩ := six_lt hz
    obtain ⟨hv', ev⟩ := six_lt hv
    simp only [ha, hb, hz, hv, hu, Option.some.injEq] at h
    subst h
    rw [rdec, rdec_unsix (e :: t) l hu]
    simp [-UInt8.ofNat_add, -UInt8.ofNat_mul, rcount, rnum, rthree, ha, hb, hz, hv]
    refine ⟨?_, ?_, ?_⟩ <;> (apply u8_eq; omega)

theorem unsix_ref (s : Bytes) : unsix s = match rdec s with | some o => if sixes o = s then some o else none | none => none := by
  cases h : unsix s with
  | some x => rw [rdec_unsix s x h]; simp [sixes_unsix s x h]
  | none =>
    cases hr : rdec s with
    | none => rfl
    | some o =>
      by_cases he : sixes o = s
      · have := unsix_sixes o; rw [he, h] at this; cases this
      · simp [he]
end Bs
