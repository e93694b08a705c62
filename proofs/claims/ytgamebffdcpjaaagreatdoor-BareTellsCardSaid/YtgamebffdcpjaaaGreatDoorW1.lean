/- Walks: the small byte tests of package bare and of its reference. -/
import Derived.WalkKit
import Derived.LoopTactic
import Derived.WalkLawsBesides
import Derived.WalkSpells
import Derived.Outline
import Derived.Lib.Hide
import Derived.Laws.BitsAllLaws
import Derived.Test.YtgamebffdcpjaaaGreatDoorProg
import Derived.Test.YtgamebffdcpjaaaGreatDoorA2
namespace Go.Proofs.YtgamebffdcpjaaaGreatDoor
open Go.RowKit Bs

theorem ret_bool {a b : Bool} (h : a = b) : Ending.returned (.bool a) = .returned (.bool b) := by rw [h]
theorem ret_int {k : IntKind} {a b : Int} (h : a = b) : Ending.returned (.int k a) = .returned (.int k b) := by rw [h]

theorem digit_calls (c : UInt8) (w : World) : Calls Tryz.prog 68 #[.int .u8 (c.toNat : Int)] w fun e w' => e = .returned (.bool (digit c)) ∧ w = w' := by
  have hc := c.toNat_lt
  go_enter Tryz.func68, Tryz.ntmps68
  go_wp2
  go_ret
  exact ⟨ret_bool (by simp only [digit, decide_eq_decide]; omega), rfl⟩

theorem plain_calls (c : UInt8) (w : World) : Calls Tryz.prog 136 #[.int .u8 (c.toNat : Int)] w fun e w' => e = .returned (.bool (plain c)) ∧ w = w' := by
  have hc := c.toNat_lt
  go_enter Tryz.func136, Tryz.ntmps136
  go_wp2
  all_goals go_ret
  all_goals exact ⟨ret_bool (Bool.eq_iff_iff.2 (by simp [plain]; try omega)), rfl⟩

theorem or32 (c : UInt8) : bits .or .u8 (c.toNat : Int) 32 = ((c.toNat ||| 32 : Nat) : Int) := u8_or_nat c.toNat 32 c.toNat_lt (by omega)
theorem letter_or (c : UInt8) : letter c = (decide (97 ≤ (c.toNat ||| 32)) && decide ((c.toNat ||| 32) ≤ 122)) := by
  have h : ∀ n, n < 256 → decide ((97 ≤ n ∧ n ≤ 122) ∨ (65 ≤ n ∧ n ≤ 90)) = (decide (97 ≤ (n ||| 32)) && decide ((n ||| 32) ≤ 122)) := by decide +kernel
  exact h c.toNat c.toNat_lt
theorem letter_calls (c : UInt8) (w : World) : Calls Tryz.prog 70 #[.int .u8 (c.toNat : Int)] w fun e w' => e = .returned (.bool (letter c)) ∧ w = w' := by
  have hc := c.toNat_lt
  have ho := or32 c
  rw [letter_or]
  generalize c.toNat ||| 32 = x at *
  go_enter Tryz.func70, Tryz.ntmps70
  go_wp2
  all_goals go_ret
  all_goals exact ⟨ret_bool (Bool.eq_iff_iff.2 (by simp; try omega)), rfl⟩

theorem rdigit_calls (c : UInt8) (w : World) : Calls Tryz.prog 76 #[.int .u8 (c.toNat : Int)] w fun e w' => e = .returned (.bool (digit c)) ∧ w = w' := by
  have hc := c.toNat_lt
  go_enter Tryz.func76, Tryz.ntmps76
  go_wp2
  all_goals go_ret
  all_goals exact ⟨ret_bool (Bool.eq_iff_iff.2 (by simp [digit]; try omega)), rfl⟩

theorem rletter_calls (c : UInt8) (w : World) : Calls Tryz.prog 79 #[.int .u8 (c.toNat : Int)] w fun e w' => e = .returned (.bool (letter c)) ∧ w = w' := by
  have hc := c.toNat_lt
  go_enter Tryz.func79, Tryz.ntmps79
  go_wp2
  all_goals go_ret
  all_goals exact ⟨ret_bool (Bool.eq_iff_iff.2 (by simp [letter]; try omega)), rfl⟩

theorem beqU8 {a b : UInt8} : (((a.toNat : Int) == (b.toNat : Int)) = true) ↔ a = b := by
  rw [beq_iff_eq, Int.ofNat_inj, UInt8.toNat_inj]
theorem bneU8 {a b : UInt8} : (((a.toNat : Int) == (b.toNat : Int)) = false) ↔ a ≠ b := by
  rw [beq_eq_false_iff_ne, ne_eq, Int.ofNat_inj, UInt8.toNat_inj]
/-- A byte of a text, as its list has it. -/
theorem ba_get (s : ByteArray) (k : Nat) (h : k < s.size) : s[k] = s.data.toList.getD k 0 := by
  rw [List.getD_eq_getElem?_getD, List.getElem?_eq_getElem (by simpa using h)]; rfl

theorem mark_yes {c : UInt8} {k : Nat} (hk : k < 17) (h : Bs.marks.getD k 0 = c) : Bs.mark c = true := by
  subst h
  unfold Bs.mark
  rw [List.contains_iff_mem]
  rw [List.getD_eq_getElem?_getD, List.getElem?_eq_getElem (show k < Bs.marks.length from hk)]
  exact List.getElem_mem _
theorem mark_no {c : UInt8} (h : ∀ j, j < 17 → Bs.marks.getD j 0 ≠ c) : Bs.mark c = false := by
  unfold Bs.mark
  rw [Bool.eq_false_iff, ne_eq, List.contains_iff_mem]
  intro hm
  obtain ⟨j, hj, e⟩ := List.getElem_of_mem hm
  refine h j hj ?_
  rw [List.getD_eq_getElem?_getD, List.getElem?_eq_getElem hj]
  exact e

theorem mark_calls (c : UInt8) (w : World) : Calls Tryz.prog 84 #[.int .u8 (c.toNat : Int)] w fun e w' => e = .returned (.bool (Bs.mark c)) ∧ w = w' := by
  have hc := c.toNat_lt
  go_enter Tryz.func84, Tryz.ntmps84
  go_wp2
  go_loop [4] (fun i => ∃ k : Nat, k ≤ 17 ∧ i = .int .i64 k ∧ ∀ j, j < k → Bs.marks.getD j 0 ≠ c) (fun i => 17 - (intOf i).toNat)
  case atStart => exact ⟨0, by omega, rfl, by simp⟩
  case round =>
    obtain ⟨k, hk, rfl, hm⟩ := hrel
    by_cases hlt : k < 17
    · have hg := ba_get (⟨#[33, 35, 36, 37, 38, 39, 42, 43, 45, 46, 94, 95, 96, 124, 126, 58, 47]⟩) k hlt
      have HG := Lib.hid hg
      clear hg
      go_wp2
      · rename_i h _
        go_ret
        rw [HG.out] at h
        exact ⟨ret_bool (mark_yes hlt (beqU8.1 h)).symm, rfl⟩
      · rename_i h
        rw [HG.out] at h
        refine ⟨⟨k + 1, by omega, by go_num, ?_⟩, by simp [intOf]; omega⟩
        intro j hj
        by_cases e : j = k
        · subst e; exact bneU8.1 h
        · exact hm j (by omega)
    · go_wp2
      go_ret
      obtain rfl : k = 17 := by omega
      exact ⟨ret_bool (mark_no hm).symm, rfl⟩

theorem six_of {c : UInt8} {k : Nat} (hk : k < 64) (h : Bs.sixl.getD k 0 = c) (hb : ∀ j, j < k → Bs.sixl.getD j 0 ≠ c) : Bs.six c = some k := by
  have e : Bs.sx k = c := by rw [Bs.sx, Nat.mod_eq_of_lt hk]; exact h
  rw [← e, Bs.six_sx, Nat.mod_eq_of_lt hk]
theorem six_none {c : UInt8} (h : ∀ j, j < 64 → Bs.sixl.getD j 0 ≠ c) : Bs.six c = none := by
  unfold Bs.six
  rw [List.find?_eq_none]
  intro j hj
  simp only [List.mem_range] at hj
  have := h j hj
  simp only [Bs.sx, Nat.mod_eq_of_lt hj, beq_iff_eq]
  exact this
/-- A letter's number; -1: it is none. -/
def sixI (c : UInt8) : Int := match Bs.six c with | some k => k | none => -1
theorem sixI_some {c : UInt8} {k : Nat} (h : Bs.six c = some k) : sixI c = k := by simp [sixI, h]
theorem sixI_none {c : UInt8} (h : Bs.six c = none) : sixI c = -1 := by simp [sixI, h]

theorem six_calls (c : UInt8) (w : World) : Calls Tryz.prog 82 #[.int .u8 (c.toNat : Int)] w fun e w' => e = .returned (.int .i64 (sixI c)) ∧ w = w' := by
  have hc := c.toNat_lt
  go_enter Tryz.func82, Tryz.ntmps82
  go_wp2
  go_loop [3] (fun i => ∃ k : Nat, k ≤ 64 ∧ i = .int .i64 k ∧ ∀ j, j < k → Bs.sixl.getD j 0 ≠ c) (fun i => 64 - (intOf i).toNat)
  case atStart => exact ⟨0, by omega, rfl, by simp⟩
  case round =>
    obtain ⟨k, hk, rfl, hm⟩ := hrel
    by_cases hlt : k < 64
    · have hg := ba_get (⟨#[65, 66, 67, 68, 69, 70, 71, 72, 73, 74, 75, 76, 77, 78, 79, 80, 81, 82, 83, 84, 85, 86, 87, 88, 89, 90, 97, 98, 99, 100, 101, 102, 103, 104, 105, 106, 107, 108, 109, 110, 111, 112, 113, 114, 115, 116, 117, 118, 119, 120, 121, 122, 48, 49, 50, 51, 52, 53, 54, 55, 56, 57, 43, 47]⟩) k hlt
      have HG := Lib.hid hg
      clear hg
      go_wp2
      · rename_i h _
        go_ret
        rw [HG.out] at h
        exact ⟨ret_int (sixI_some (six_of hlt (beqU8.1 h) hm)).symm, rfl⟩
      · rename_i h
        rw [HG.out] at h
        refine ⟨⟨k + 1, by omega, by go_num, ?_⟩, by simp [intOf]; omega⟩
        intro j hj
        by_cases e : j = k
        · subst e; exact bneU8.1 h
        · exact hm j (by omega)
    · go_wp2
      go_ret
      obtain rfl : k = 64 := by omega
      exact ⟨ret_int (sixI_none (six_none hm)).symm, rfl⟩
end Go.Proofs.YtgamebffdcpjaaaGreatDoor
