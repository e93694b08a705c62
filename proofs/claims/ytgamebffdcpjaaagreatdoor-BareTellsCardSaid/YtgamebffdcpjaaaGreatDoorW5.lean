/- Walks: what stands where there is no item; tokens and answers. -/
import Derived.Test.YtgamebffdcpjaaaGreatDoorW4
namespace Go.Proofs.YtgamebffdcpjaaaGreatDoor
open Go.RowKit
set_option maxRecDepth 100000

theorem none_calls (w : World) : Calls Tryz.prog 75 #[] w fun e w' => e = .returned (readV none) ∧ Below w.heap.size w w' := by
  go_enter Tryz.func75, Tryz.ntmps75
  go_wp2
  refine bodyPost_ret (v := readV none) (by simp [results, Tryz.results75, go_sem, readV]) rfl ⟨rfl, (Below.refl _ _).alloc (Nat.le_refl _) _⟩

theorem take_run (p : UInt8 → Bool) (l : Bs.Bytes) : l.take (Bs.run p l) = l.takeWhile p := by
  unfold Bs.run
  induction l with
  | nil => rfl
  | cons c t ih => rw [List.takeWhile_cons]; split <;> simp [ih]
theorem drop_run (p : UInt8 → Bool) (l : Bs.Bytes) : l.drop (Bs.run p l) = l.dropWhile p := by
  unfold Bs.run
  induction l with
  | nil => rfl
  | cons c t ih => rw [List.takeWhile_cons, List.dropWhile_cons]; split <;> simp [ih]

theorem token_read (s : ByteArray) (w : World) (hs : s.size ≤ maxLen) :
    Calls Tryz.prog 71 #[.string s] w fun e w' => e = .returned (readV (some (Bs.txt 4 (s.data.toList.takeWhile Bs.tokc), s.data.toList.dropWhile Bs.tokc))) ∧ Below w.heap.size w w' := by
  have hn := run_le Bs.tokc s.data.toList
  obtain ⟨n, e⟩ : ∃ n, n = Bs.run Bs.tokc s.data.toList := ⟨_, rfl⟩
  rw [← e] at hn
  have hz : s.data.toList.length = s.size := by simp
  rw [hz] at hn
  have HE := Lib.hid e
  clear e hz
  unfold maxLen at hs
  go_enter Tryz.func71, Tryz.ntmps71
  go_wp2_with ((go_at_call 133; refine (run_tok _ _ (by unfold maxLen; omega)).mono ?_; rintro e w' ⟨rfl, rfl⟩; rw [← HE.out]))
  go_region
  go_wp2
  refine bodyPost_ret (v := .tuple #[.agg #[.int .u8 4, .int .i64 0, S (s.data.toList.take n), .bool false], S (s.data.toList.drop n), .int .i64 0]) ?_ rfl ⟨?_, ?_⟩
  · simp [results, Tryz.results71, go_sem]
    exact ⟨ba_mk' (by rw [Lib.extract_data]; simp), ba_mk' (Lib.extract_to_end _ _)⟩
  · rw [HE.out, take_run, drop_run]; rfl
  · exact ((Below.refl _ _).alloc (Nat.le_refl _) _).drew

theorem answer_no {c : UInt8} {t : Bs.Bytes} (h : ¬ (c.toNat : Int) / 2 = 24) : Bs.answer (c :: t) = none := by
  simp only [Bs.answer]
  rw [if_neg]
  rintro (rfl | rfl)
  · exact h (by decide)
  · exact h (by decide)
theorem answer_yes {c : UInt8} {t : Bs.Bytes} (h : (c.toNat : Int) / 2 = 24) : Bs.answer (c :: t) = some ({ kind := 6, int := 0, text := [], yes := c == 49 }, t) := by
  simp only [Bs.answer]
  rw [if_pos]
  have : c.toNat = 48 ∨ c.toNat = 49 := by omega
  rcases this with h | h
  · exact .inl (UInt8.toNat_inj.1 h)
  · exact .inr (UInt8.toNat_inj.1 h)

theorem and1 {c : UInt8} (h : (c.toNat : Int) / 2 = 24) : (bits .and .u8 (c.toNat : Int) 1 == 1) = (c == 49) := by
  have h1 : bits .and .u8 (c.toNat : Int) 1 = ((c.toNat &&& 1 : Nat) : Int) := u8_and_nat c.toNat 1 c.toNat_lt (by omega)
  rw [h1, nat_mask1]
  have : c.toNat = 48 ∨ c.toNat = 49 := by omega
  rcases this with h | h
  · obtain rfl : c = 48 := UInt8.toNat_inj.1 h
    decide
  · obtain rfl : c = 49 := UInt8.toNat_inj.1 h
    decide

theorem answer_calls (s : ByteArray) (w : World) (hs : s.size ≤ maxLen) (h0 : 0 < s.size) :
    Calls Tryz.prog 74 #[.string s] w fun e w' => e = .returned (readV (Bs.answer (s.data.toList.drop 1))) ∧ Below w.heap.size w w' := by
  unfold maxLen at hs
  by_cases h2 : 1 < s.size
  · have hi : (1 : Int) < (s.size : Int) := by omega
    have hb := s[1].toNat_lt
    have HG := Lib.hid (ba_get s 1 h2)
    have hl : s.data.toList.drop 1 = s[1] :: s.data.toList.drop 2 := by
      rw [List.drop_eq_getElem_cons (by simpa using h2)]; rfl
    have HL := Lib.hid hl
    clear hl
    by_cases hc : (s[1].toNat : Int) / 2 = 24
    · have hc1 : ((s[1].toNat : Int) / 2 != 24) = false := by simp [hc]
      have HC := Lib.hid hc
      clear hc
      go_enter Tryz.func74, Tryz.ntmps74
      go_wp2
      go_region
      go_wp2
      have hbit := and1 HC.out
      refine bodyPost_ret (v := .tuple #[.agg #[.int .u8 6, .int .i64 0, S [], .bool (s[1] == 49)], S (s.data.toList.drop 2), .int .i64 0]) ?_ rfl ⟨?_, ?_⟩
      · simp [results, Tryz.results74, go_sem, hbit]
        exact ba_mk' (Lib.extract_to_end _ _)
      · rw [HL.out, answer_yes HC.out]; rfl
      · exact ((Below.refl _ _).alloc (Nat.le_refl _) _).drew
    · have hc1 : ((s[1].toNat : Int) / 2 != 24) = true := by simp [hc]
      go_enter Tryz.func74, Tryz.ntmps74
      go_wp2
      refine bodyPost_ret (v := readV none) (by simp [results, Tryz.results74, go_sem, readV]) rfl ⟨?_, (Below.refl _ _).alloc (Nat.le_refl _) _⟩
      rw [HL.out, answer_no (by omega)]
  · have hi : (s.size : Int) < 2 := by omega
    go_enter Tryz.func74, Tryz.ntmps74
    go_wp2
    refine bodyPost_ret (v := readV none) (by simp [results, Tryz.results74, go_sem, readV]) rfl ⟨?_, (Below.refl _ _).alloc (Nat.le_refl _) _⟩
    rw [List.drop_eq_nil_of_le (by simp; omega)]; rfl
end Go.Proofs.YtgamebffdcpjaaaGreatDoor
