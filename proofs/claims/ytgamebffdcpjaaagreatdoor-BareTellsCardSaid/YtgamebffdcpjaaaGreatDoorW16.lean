/- Walks: which items may be, as the reference tells it. -/
import Derived.Test.YtgamebffdcpjaaaGreatDoorW15
namespace Go.Proofs.YtgamebffdcpjaaaGreatDoor
open Go.RowKit
set_option maxRecDepth 100000

/-- An item, as a value, from its parts. -/
abbrev bV (k : Nat) (i : Int) (s : ByteArray) (y : Bool) : Value := .agg #[.int .u8 (k : Int), .int .i64 i, .string s, .bool y]

theorem all_get {p : UInt8 → Bool} {s : ByteArray} : s.data.toList.all p = true ↔ ∀ j (h : j < s.size), p s[j] = true := by
  rw [List.all_eq_true]
  constructor
  · intro h j hj
    rw [ba_get]
    rw [List.getD_eq_getElem?_getD, List.getElem?_eq_getElem (by simpa using hj)]
    exact h _ (List.getElem_mem _)
  · intro h c hc
    obtain ⟨j, hj, e⟩ := List.getElem_of_mem hc
    have := h j (by simpa using hj)
    rw [ba_get, List.getD_eq_getElem?_getD, List.getElem?_eq_getElem hj] at this
    exact e ▸ this

theorem empty_iff {s : ByteArray} : s.data.toList.isEmpty = true ↔ s = ⟨#[]⟩ := by
  rw [List.isEmpty_iff]
  constructor
  · intro h
    apply ByteArray.ext
    exact Array.toList_inj.1 (by simpa using h)
  · rintro rfl; rfl

theorem right_num {k : Nat} (hk : k = 1 ∨ k = 2) (i : Int) (s : ByteArray) (y : Bool) :
    Bs.right ⟨k, i, s.data.toList, y⟩ = (decide (-999999999999999 ≤ i) && decide (i ≤ 999999999999999) && s.toList.isEmpty && !y) := by
  rw [ByteArray.toList_eq]
  rcases hk with rfl | rfl <;> rfl
theorem right_no {k : Nat} (h1 : k ≠ 1) (h2 : k ≠ 2) (h3 : k ≠ 3) (h4 : k ≠ 4) (h5 : k ≠ 5) (h6 : k ≠ 6) (i : Int) (s : Bs.Bytes) (y : Bool) : Bs.right ⟨k, i, s, y⟩ = false := by
  unfold Bs.right
  split <;> first | rfl | contradiction

set_option maxHeartbeats 4000000 in
theorem rright_num (k : Nat) (hk : k = 1 ∨ k = 2) (i : Int) (s : ByteArray) (y : Bool) (w : World) :
    Calls Tryz.prog 21 #[bV k i s y] w fun e w' => e = .returned (.bool (Bs.right ⟨k, i, s.data.toList, y⟩)) ∧ Below w.heap.size w w' := by
  rw [right_num hk]
  rcases hk with rfl | rfl
  all_goals go_enter Tryz.func21, Tryz.ntmps21
  all_goals go_wp2_with fail
  all_goals go_ret
  all_goals refine ⟨ret_bool ?_, (Below.refl _ _).alloc (Nat.le_refl _) _⟩
  all_goals (simp_all <;> (intros; omega))

set_option maxHeartbeats 4000000 in
theorem rright_tok (i : Int) (s : ByteArray) (y : Bool) (w : World) (hs : s.size ≤ 140737488351232) :
    Calls Tryz.prog 21 #[bV 4 i s y] w fun e w' => e = .returned (.bool (Bs.right ⟨4, i, s.data.toList, y⟩)) ∧ Below w.heap.size w w' := by
  have ht : ∀ w', Calls Tryz.prog 23 #[.string s] w' fun e w'' => e = .returned (.bool (Bs.token s.data.toList)) ∧ w' = w'' := fun w' => rtoken_calls s w' (by unfold maxLen; omega)
  obtain ⟨b, hb⟩ : ∃ b, b = Bs.token s.data.toList := ⟨_, rfl⟩
  have e : Bs.right ⟨4, i, s.data.toList, y⟩ = (i == 0 && !y && b) := by rw [hb]; rfl
  rw [e]
  rw [← hb] at ht
  clear hb e
  go_enter Tryz.func21, Tryz.ntmps21
  go_wp2_with (go_at_call 23; refine (ht _).mono ?_; rintro _ _ ⟨rfl, rfl⟩)
  all_goals go_ret
  all_goals refine ⟨ret_bool ?_, (Below.refl _ _).alloc (Nat.le_refl _) _⟩
  all_goals simp_all

set_option maxHeartbeats 4000000 in
theorem rright_bytes (i : Int) (s : ByteArray) (y : Bool) (w : World) :
    Calls Tryz.prog 21 #[bV 5 i s y] w fun e w' => e = .returned (.bool (Bs.right ⟨5, i, s.data.toList, y⟩)) ∧ Below w.heap.size w w' := by
  have e : Bs.right ⟨5, i, s.data.toList, y⟩ = (i == 0 && !y) := rfl
  rw [e]
  go_enter Tryz.func21, Tryz.ntmps21
  go_wp2_with fail
  all_goals go_ret
  all_goals refine ⟨ret_bool ?_, (Below.refl _ _).alloc (Nat.le_refl _) _⟩
  all_goals simp_all

set_option maxHeartbeats 4000000 in
theorem rright_yes (i : Int) (s : ByteArray) (y : Bool) (w : World) :
    Calls Tryz.prog 21 #[bV 6 i s y] w fun e w' => e = .returned (.bool (Bs.right ⟨6, i, s.data.toList, y⟩)) ∧ Below w.heap.size w w' := by
  have e : Bs.right ⟨6, i, s.data.toList, y⟩ = (i == 0 && s.toList.isEmpty) := by rw [ByteArray.toList_eq]; rfl
  rw [e]
  go_enter Tryz.func21, Tryz.ntmps21
  go_wp2_with fail
  all_goals go_ret
  all_goals refine ⟨ret_bool ?_, (Below.refl _ _).alloc (Nat.le_refl _) _⟩
  all_goals simp_all

set_option maxHeartbeats 4000000 in
theorem rright_text (i : Int) (s : ByteArray) (y : Bool) (w : World) (hs : s.size ≤ 140737488351232) :
    Calls Tryz.prog 21 #[bV 3 i s y] w fun e w' => e = .returned (.bool (Bs.right ⟨3, i, s.data.toList, y⟩)) ∧ Below w.heap.size w w' := by
  have e : Bs.right ⟨3, i, s.data.toList, y⟩ = (i == 0 && !y && s.data.toList.all Bs.plain) := rfl
  rw [e]
  go_enter Tryz.func21, Tryz.ntmps21
  go_wp2_with fail
  go_loop [3] (fun v => ∃ j : Nat, j ≤ s.size ∧ v = .int .i64 (j : Int) ∧ ∀ x (h : x < s.size), x < j → Bs.plain s[x] = true) (fun v => s.size - (intOf v).toNat)
  case atStart => exact ⟨0, by omega, rfl, by intros; omega⟩
  case round =>
    obtain ⟨j, hj, rfl, hm⟩ := hrel
    by_cases hlt : j < s.size
    · have hb8 := s[j].toNat_lt
      have hi := plain_iff (c := s[j])
      by_cases hp : Bs.plain s[j] = true
      · obtain ⟨p1, p2⟩ := hi.1 hp
        go_wp2_with fail
        refine ⟨⟨j + 1, by omega, by go_num, ?_⟩, by simp [intOf]; omega⟩
        intro x hx hxj
        by_cases ex : x = j
        · subst ex; exact hp
        · exact hm x hx (by omega)
      · have hf : s.data.toList.all Bs.plain = false := by
          rw [Bool.eq_false_iff]; intro h; exact hp (all_get.1 h j hlt)
        have hq : ¬ (32 ≤ (s[j].toNat : Int) ∧ (s[j].toNat : Int) ≤ 126) := fun h => hp (hi.2 h)
        by_cases hp3 : (s[j].toNat : Int) < 32
        · go_wp2_with fail
          go_ret
          exact ⟨ret_bool (by first | rfl | simp [hf]), (Below.refl _ _).alloc (Nat.le_refl _) _⟩
        · have hp4 : 126 < (s[j].toNat : Int) := by omega
          go_wp2_with fail
          go_ret
          exact ⟨ret_bool (by first | rfl | simp [hf]), (Below.refl _ _).alloc (Nat.le_refl _) _⟩
    · have hT : s.data.toList.all Bs.plain = true := all_get.2 fun x hx => hm x hx (by omega)
      go_wp2_with fail
      all_goals go_ret
      all_goals refine ⟨ret_bool ?_, (Below.refl _ _).alloc (Nat.le_refl _) _⟩
      all_goals first | rfl | simp_all

set_option maxHeartbeats 4000000 in
theorem rright_other (k : Nat) (h1 : k ≠ 1) (h2 : k ≠ 2) (h3 : k ≠ 3) (h4 : k ≠ 4) (h5 : k ≠ 5) (h6 : k ≠ 6) (i : Int) (s : ByteArray) (y : Bool) (w : World) :
    Calls Tryz.prog 21 #[bV k i s y] w fun e w' => e = .returned (.bool (Bs.right ⟨k, i, s.data.toList, y⟩)) ∧ Below w.heap.size w w' := by
  rw [right_no h1 h2 h3 h4 h5 h6]
  have y1 : ((k : Int) == 1) = false := by rw [beq_eq_false_iff_ne]; omega
  have y2 : ((k : Int) == 2) = false := by rw [beq_eq_false_iff_ne]; omega
  have y3 : ((k : Int) == 3) = false := by rw [beq_eq_false_iff_ne]; omega
  have y4 : ((k : Int) == 4) = false := by rw [beq_eq_false_iff_ne]; omega
  have y5 : ((k : Int) == 5) = false := by rw [beq_eq_false_iff_ne]; omega
  have y6 : ((k : Int) == 6) = false := by rw [beq_eq_false_iff_ne]; omega
  go_enter Tryz.func21, Tryz.ntmps21
  go_wp2_with fail
  go_ret
  exact ⟨rfl, (Below.refl _ _).alloc (Nat.le_refl _) _⟩

theorem rright_calls (k : Nat) (i : Int) (s : ByteArray) (y : Bool) (w : World) (hs : s.size ≤ 140737488351232) :
    Calls Tryz.prog 21 #[bV k i s y] w fun e w' => e = .returned (.bool (Bs.right ⟨k, i, s.data.toList, y⟩)) ∧ Below w.heap.size w w' := by
  by_cases h1 : k = 1
  · exact rright_num k (.inl h1) i s y w
  by_cases h2 : k = 2
  · exact rright_num k (.inr h2) i s y w
  by_cases h3 : k = 3
  · subst h3; exact rright_text i s y w hs
  by_cases h4 : k = 4
  · subst h4; exact rright_tok i s y w hs
  by_cases h5 : k = 5
  · subst h5; exact rright_bytes i s y w
  by_cases h6 : k = 6
  · subst h6; exact rright_yes i s y w
  exact rright_other k h1 h2 h3 h4 h5 h6 i s y w
end Go.Proofs.YtgamebffdcpjaaaGreatDoor
