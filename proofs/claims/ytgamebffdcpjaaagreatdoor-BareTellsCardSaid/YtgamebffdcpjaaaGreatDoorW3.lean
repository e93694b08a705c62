/- Walks: the reference's Token; how many bytes are so at a text's beginning; a numeral's value. -/
import Derived.Test.YtgamebffdcpjaaaGreatDoorW2
namespace Go.Proofs.YtgamebffdcpjaaaGreatDoor
open Go.RowKit
set_option maxRecDepth 100000

theorem no_tok' {k : Nat} {c : UInt8} (hk : k ≠ 0) (h1 : ¬ Bs.letter c = true) (h2 : ¬ Bs.digit c = true) (h3 : (!Bs.mark c) = true) : okAt k c = false := by
  simp at h3; simp [okAt, hk, Bs.tokc, h1, h2, h3]
theorem ok_mark' {k : Nat} {c : UInt8} (hk : k ≠ 0) (h : (!Bs.mark c) = false) : okAt k c = true := by
  simp at h; simp [okAt, hk, Bs.tokc, h]

theorem size_pos_ba (s : ByteArray) : decide (0 < s.size) = !s.data.toList.isEmpty := by
  have hz : s.data.toList.length = s.size := by simp
  generalize s.size = n at *
  generalize s.data.toList = l at *
  subst hz
  cases l <;> simp

theorem rtoken_calls (s : ByteArray) (w : World) (hs : s.size ≤ maxLen) :
    Calls Tryz.prog 23 #[.string s] w fun e w' => e = .returned (.bool (Bs.token s.data.toList)) ∧ w = w' := by
  unfold maxLen at hs
  go_enter Tryz.func23, Tryz.ntmps23
  go_wp2
  go_loop [3, 4] (fun i _ => ∃ k : Nat, k ≤ s.size ∧ i = .int .i64 k ∧ tokTo s.data.toList k) (fun i _ => s.size - (intOf i).toNat)
  case atStart => exact ⟨0, by omega, rfl, by intro j hj; omega⟩
  case round =>
    obtain ⟨k, hk, rfl, ht⟩ := hrel
    by_cases hlt : k < s.size
    · have HG := Lib.hid (ba_get s k hlt)
      have hb := s[k].toNat_lt
      by_cases hk0 : k = 0
      · have hk1 : ((k : Int) == 0) = true := by simp [hk0]
        have HK := Lib.hid hk0
        clear hk0
        by_cases hL : Bs.letter s[k] = true
        · go_wp2_with (first | (go_at_call 79; refine (rletter_calls _ _).mono ?_; rintro e w' ⟨rfl, rfl⟩) | (go_at_call 76; refine (rdigit_calls _ _).mono ?_; rintro e w' ⟨rfl, rfl⟩) | (go_at_call 84; refine (mark_calls _ _).mono ?_; rintro e w' ⟨rfl, rfl⟩))
          exact ⟨⟨k + 1, by omega, by go_num, tokTo_succ ht HG.out (ok_letter hL)⟩, by simp [intOf]; omega⟩
        · have hL' : Bs.letter s[k] = false := by simpa using hL
          by_cases h42 : (s[k].toNat : Int) = 42
          · have h1 : ((s[k].toNat : Int) != 42) = false := by simp [h42]
            have h2 : Bs.digit s[k] = false := by rw [(eq42 _).1 h42]; decide +kernel
            have h3 : Bs.mark s[k] = true := by rw [(eq42 _).1 h42]; decide +kernel
            have H42 := Lib.hid h42
            clear h42
            go_wp2_with (first | (go_at_call 79; refine (rletter_calls _ _).mono ?_; rintro e w' ⟨rfl, rfl⟩) | (go_at_call 76; refine (rdigit_calls _ _).mono ?_; rintro e w' ⟨rfl, rfl⟩) | (go_at_call 84; refine (mark_calls _ _).mono ?_; rintro e w' ⟨rfl, rfl⟩))
            exact ⟨⟨k + 1, by omega, by go_num, tokTo_succ ht HG.out (ok_star H42.out)⟩, by simp [intOf]; omega⟩
          · have h1 : ((s[k].toNat : Int) != 42) = true := by simp [h42]
            go_wp2_with (first | (go_at_call 79; refine (rletter_calls _ _).mono ?_; rintro e w' ⟨rfl, rfl⟩) | (go_at_call 76; refine (rdigit_calls _ _).mono ?_; rintro e w' ⟨rfl, rfl⟩) | (go_at_call 84; refine (mark_calls _ _).mono ?_; rintro e w' ⟨rfl, rfl⟩))
            go_ret; exact ⟨ret_bool (tokAt_no (by simpa using hlt) HG.out (no_head HK.out hL h42)).symm, rfl⟩
      · have hk1 : ((k : Int) == 0) = false := by simp [hk0]
        go_wp2_with (first | (go_at_call 79; refine (rletter_calls _ _).mono ?_; rintro e w' ⟨rfl, rfl⟩) | (go_at_call 76; refine (rdigit_calls _ _).mono ?_; rintro e w' ⟨rfl, rfl⟩) | (go_at_call 84; refine (mark_calls _ _).mono ?_; rintro e w' ⟨rfl, rfl⟩))
        first | done | skip
        all_goals first
          | exact ⟨⟨k + 1, by omega, by go_num, tokTo_succ ht HG.out (by first | exact ok_letter ‹_› | exact ok_star ‹_› | exact ok_digit hk0 ‹_› | exact ok_mark' hk0 ‹_›)⟩, by simp [intOf]; omega⟩
          | (go_ret; exact ⟨ret_bool (tokAt_no (by simpa using hlt) HG.out (no_tok' hk0 ‹_› ‹_› ‹_›)).symm, rfl⟩)
    · go_wp2
      go_ret
      obtain rfl : k = s.size := by omega
      exact ⟨ret_bool (by rw [tok_all ht]; exact size_pos_ba s), rfl⟩

theorem run_at {p : UInt8 → Bool} : ∀ {l : Bs.Bytes} {k : Nat}, k < l.length → (∀ j, j < k → p (l.getD j 0) = true) → p (l.getD k 0) = false → Bs.run p l = k
  | c :: t, 0, _, _, h => by
    simp only [List.getD_cons_zero] at h
    simp [Bs.run, h]
  | c :: t, k + 1, hk, ha, h => by
    have h0 := ha 0 (by omega)
    simp only [List.getD_cons_zero] at h0
    rw [getD_cons] at h
    have := run_at (p := p) (l := t) (k := k) (by simpa using hk) (fun j hj => by have := ha (j + 1) (by omega); rwa [getD_cons] at this) h
    unfold Bs.run at this ⊢
    rw [List.takeWhile_cons, if_pos h0, List.length_cons, this]
theorem run_all {p : UInt8 → Bool} {l : Bs.Bytes} (ha : ∀ j, j < l.length → p (l.getD j 0) = true) : Bs.run p l = l.length := by
  unfold Bs.run
  have hall : ∀ x ∈ l, p x = true := by
    intro x hx
    obtain ⟨j, hj, e⟩ := List.getElem_of_mem hx
    have := ha j hj
    rw [List.getD_eq_getElem?_getD, List.getElem?_eq_getElem hj] at this
    rw [← e]; exact this
  clear ha
  induction l with
  | nil => rfl
  | cons c t ih => rw [List.takeWhile_cons, if_pos (hall c (by simp)), List.length_cons, List.length_cons, ih (fun x hx => hall x (by simp [hx]))]
theorem all_succ {p : UInt8 → Bool} {l : Bs.Bytes} {k : Nat} {c : UInt8} (ha : ∀ j, j < k → p (l.getD j 0) = true) (e : c = l.getD k 0) (h : p c = true) : ∀ j, j < k + 1 → p (l.getD j 0) = true := by
  intro j hj
  by_cases e' : j = k
  · subst e'; rw [← e]; exact h
  · exact ha j (by omega)

theorem tok1_calls (c : UInt8) (w : World) : Calls Tryz.prog 135 #[.int .u8 (c.toNat : Int)] w fun e w' => e = .returned (.bool (Bs.tokc c)) ∧ w = w' := by
  go_enter Tryz.func135, Tryz.ntmps135
  go_wp2_with (first | (go_at_call 70; refine (letter_calls _ _).mono ?_; rintro e w' ⟨rfl, rfl⟩) | (go_at_call 68; refine (digit_calls _ _).mono ?_; rintro e w' ⟨rfl, rfl⟩) | (go_at_call 81; refine (Tryz.strings_IndexByte _ _ _).mono ?_; rintro e w' ⟨rfl, rfl⟩))
  all_goals go_ret
  · exact ⟨ret_bool (by simp [Bs.tokc, *]), rfl⟩
  · exact ⟨ret_bool (by simp [Bs.tokc, *]), rfl⟩
  · exact ⟨ret_bool (by simp only [Bs.tokc, idx_ge]; simp [*]), rfl⟩

theorem run_digit (s : ByteArray) (w : World) (hs : s.size ≤ maxLen) :
    Calls Tryz.prog 133 #[.string s, .func (.func 68) #[] #[]] w fun e w' => e = .returned (.int .i64 (Bs.run Bs.digit s.data.toList)) ∧ w = w' := by
  unfold maxLen at hs
  go_enter Tryz.func133, Tryz.ntmps133
  go_wp2
  go_loop [5, 8] (fun _ i => ∃ k : Nat, k ≤ s.size ∧ i = .int .i64 k ∧ ∀ j, j < k → Bs.digit (s.data.toList.getD j 0) = true) (fun _ i => s.size - (intOf i).toNat)
  case atStart => exact ⟨0, by omega, rfl, by intro j hj; omega⟩
  case round =>
    obtain ⟨k, hk, rfl, ht⟩ := hrel
    have HT := Lib.hid ht
    clear ht
    by_cases hlt : k < s.size
    · have HG := Lib.hid (ba_get s k hlt)
      have hb := s[k].toNat_lt
      go_wp2_with ((go_at_call 68; refine (digit_calls _ _).mono ?_; rintro e w' ⟨rfl, rfl⟩))
      · rename_i h
        go_ret
        exact ⟨ret_int (by rw [run_at (by simpa using hlt) HT.out (by rw [← HG.out]; simpa using h)]), rfl⟩
      · rename_i h
        exact ⟨⟨k + 1, by omega, by go_num, all_succ HT.out HG.out (by simpa using h)⟩, by simp [intOf]; omega⟩
    · go_wp2
      go_ret
      obtain rfl : k = s.size := by omega
      exact ⟨ret_int (by rw [run_all (by simpa using HT.out)]; simp), rfl⟩
theorem run_tok (s : ByteArray) (w : World) (hs : s.size ≤ maxLen) :
    Calls Tryz.prog 133 #[.string s, .func (.func 135) #[] #[]] w fun e w' => e = .returned (.int .i64 (Bs.run Bs.tokc s.data.toList)) ∧ w = w' := by
  unfold maxLen at hs
  go_enter Tryz.func133, Tryz.ntmps133
  go_wp2
  go_loop [5, 8] (fun _ i => ∃ k : Nat, k ≤ s.size ∧ i = .int .i64 k ∧ ∀ j, j < k → Bs.tokc (s.data.toList.getD j 0) = true) (fun _ i => s.size - (intOf i).toNat)
  case atStart => exact ⟨0, by omega, rfl, by intro j hj; omega⟩
  case round =>
    obtain ⟨k, hk, rfl, ht⟩ := hrel
    have HT := Lib.hid ht
    clear ht
    by_cases hlt : k < s.size
    · have HG := Lib.hid (ba_get s k hlt)
      have hb := s[k].toNat_lt
      go_wp2_with ((go_at_call 135; refine (tok1_calls _ _).mono ?_; rintro e w' ⟨rfl, rfl⟩))
      · rename_i h
        go_ret
        exact ⟨ret_int (by rw [run_at (by simpa using hlt) HT.out (by rw [← HG.out]; simpa using h)]), rfl⟩
      · rename_i h
        exact ⟨⟨k + 1, by omega, by go_num, all_succ HT.out HG.out (by simpa using h)⟩, by simp [intOf]; omega⟩
    · go_wp2
      go_ret
      obtain rfl : k = s.size := by omega
      exact ⟨ret_int (by rw [run_all (by simpa using HT.out)]; simp), rfl⟩

theorem rrun_calls (s : ByteArray) (w : World) (hs : s.size ≤ maxLen) :
    Calls Tryz.prog 138 #[.string s] w fun e w' => e = .returned (.int .i64 (Bs.run Bs.digit s.data.toList)) ∧ w = w' := by
  unfold maxLen at hs
  go_enter Tryz.func138, Tryz.ntmps138
  go_wp2
  go_loop [3] (fun i => ∃ k : Nat, k ≤ s.size ∧ i = .int .i64 k ∧ ∀ j, j < k → Bs.digit (s.data.toList.getD j 0) = true) (fun i => s.size - (intOf i).toNat)
  case atStart => exact ⟨0, by omega, rfl, by intro j hj; omega⟩
  case round =>
    obtain ⟨k, hk, rfl, ht⟩ := hrel
    have HT := Lib.hid ht
    clear ht
    by_cases hlt : k < s.size
    · have HG := Lib.hid (ba_get s k hlt)
      have hb := s[k].toNat_lt
      go_wp2_with ((go_at_call 76; refine (rdigit_calls _ _).mono ?_; rintro e w' ⟨rfl, rfl⟩))
      · rename_i h
        exact ⟨⟨k + 1, by omega, by go_num, all_succ HT.out HG.out h⟩, by simp [intOf]; omega⟩
      · rename_i h
        go_ret
        exact ⟨ret_int (by rw [run_at (by simpa using hlt) HT.out (by rw [← HG.out]; exact h)]), rfl⟩
    · go_wp2
      go_ret
      obtain rfl : k = s.size := by omega
      exact ⟨ret_int (by rw [run_all (by simpa using HT.out)]; simp), rfl⟩

theorem value_le (l : Bs.Bytes) (h : ∀ c ∈ l, Bs.digit c = true) : Bs.value l < 10 ^ l.length := by
  have gen : ∀ (l : Bs.Bytes) (n : Nat), (∀ c ∈ l, Bs.digit c = true) → l.foldl (fun n c => 10 * n + (c.toNat - 48)) n < (n + 1) * 10 ^ l.length := by
    intro l
    induction l with
    | nil => intro n _; simp
    | cons c t ih =>
      intro n h
      have hc := h c (by simp)
      simp only [Bs.digit, decide_eq_true_eq] at hc
      rw [List.foldl_cons, List.length_cons]
      refine Nat.lt_of_lt_of_le (ih _ (fun x hx => h x (by simp [hx]))) ?_
      rw [Nat.pow_succ, Nat.mul_comm (10 ^ t.length) 10, ← Nat.mul_assoc]
      exact Nat.mul_le_mul_right _ (by omega)
  have := gen l 0 h
  simpa [Bs.value] using this
theorem value_snoc (l : Bs.Bytes) (c : UInt8) : Bs.value (l ++ [c]) = 10 * Bs.value l + (c.toNat - 48) := by simp [Bs.value]
theorem take_snoc (s : ByteArray) (k : Nat) (h : k < s.size) : s.data.toList.take (k + 1) = s.data.toList.take k ++ [s[k]] := by
  rw [List.take_succ_eq_append_getElem (by simpa using h)]; rfl

/-- The value of a numeral of 18 digits at most. -/
theorem value_calls (s : ByteArray) (w : World) (hs : s.size ≤ 18) (hd : ∀ c ∈ s.data.toList, Bs.digit c = true) :
    Calls Tryz.prog 139 #[.string s] w fun e w' => e = .returned (.int .i64 (Bs.value s.data.toList)) ∧ w = w' := by
  have HD := Lib.hid hd
  clear hd
  go_enter Tryz.func139, Tryz.ntmps139
  go_wp2
  go_loop [3, 4] (fun n i => ∃ k : Nat, k ≤ s.size ∧ i = .int .i64 k ∧ n = .int .i64 (Bs.value (s.data.toList.take k))) (fun _ i => s.size - (intOf i).toNat)
  case atStart => exact ⟨0, by omega, rfl, by simp [Bs.value]⟩
  case round =>
    obtain ⟨k, hk, rfl, rfl⟩ := hrel
    by_cases hlt : k < s.size
    · have hb := s[k].toNat_lt
      have hdk : Bs.digit s[k] = true := HD.out _ (by rw [ba_get s k hlt, List.getD_eq_getElem?_getD, List.getElem?_eq_getElem (by simpa using hlt)]; exact List.getElem_mem _)
      simp only [Bs.digit, decide_eq_true_eq] at hdk
      have h1 : 48 ≤ s[k].toNat := hdk.1
      have h2 : s[k].toNat ≤ 57 := hdk.2
      have hv : Bs.value (s.data.toList.take k) < 10 ^ 17 := by
        refine Nat.lt_of_lt_of_le (value_le _ (fun c hc => HD.out c (List.mem_of_mem_take hc))) (Nat.pow_le_pow_right (by omega) ?_)
        simp; omega
      have HS := Lib.hid (value_snoc (s.data.toList.take k) s[k])
      have HT := Lib.hid (take_snoc s k hlt)
      have hv' : Bs.value (s.data.toList.take k) < 100000000000000000 := hv
      clear hv hdk
      go_wp2
      go_round
      case rel => exact ⟨k + 1, by omega, by go_num, by rw [HT.out, HS.out]; go_num⟩
      case measure => simp [intOf]; omega
    · go_wp2
      go_ret
      obtain rfl : k = s.size := by omega
      exact ⟨ret_int (by rw [List.take_of_length_le (by simp)]), rfl⟩
end Go.Proofs.YtgamebffdcpjaaaGreatDoor
