/- Walks: any bare item that a text begins with, as package bare reads it. -/
import Derived.Test.YtgamebffdcpjaaaGreatDoorW9
namespace Go.Proofs.YtgamebffdcpjaaaGreatDoor
open Go.RowKit
set_option maxRecDepth 100000

theorem eqB_yes {c d : UInt8} (h : c = d) : ((c.toNat : Int) == (d.toNat : Int)) = true := beqU8.2 h
theorem eqB_no {c d : UInt8} (h : c ≠ d) : ((c.toNat : Int) == (d.toNat : Int)) = false := bneU8.2 h
theorem parse_num {c : UInt8} {t : Bs.Bytes} (h : Bs.digit c = true) : Bs.parse (c :: t) = Bs.numberAt 1 (c :: t) := by
  have h45 : c ≠ 45 := by rintro rfl; exact absurd h (by decide +kernel)
  simp only [Bs.parse, h, true_or, if_true]
  unfold Bs.number
  split
  · rename_i e; injection e with e _; exact absurd e h45
  · rfl
theorem parse_neg {t : Bs.Bytes} : Bs.parse (45 :: t) = Bs.numberAt (-1) t := by
  simp only [Bs.parse, or_true, if_true, Bs.number]
theorem parse_tok {c : UInt8} {t : Bs.Bytes} (h : ¬ Bs.digit c = true) (h1 : c ≠ 45) (h2 : Bs.headc c = true) : Bs.parse (c :: t) = some (Bs.txt 4 ((c :: t).takeWhile Bs.tokc), (c :: t).dropWhile Bs.tokc) := by
  simp only [Bs.parse]
  rw [if_neg (by simp [h, h1]), if_pos h2]
theorem parse_quoted {t : Bs.Bytes} : Bs.parse (34 :: t) = Bs.quoted [] t := by
  simp only [Bs.parse]
  rw [if_neg (by decide +kernel), if_neg (by decide +kernel), if_pos trivial]
theorem parse_packed {t : Bs.Bytes} : Bs.parse (58 :: t) = Bs.packed t := by
  simp only [Bs.parse]
  rw [if_neg (by decide +kernel), if_neg (by decide +kernel), if_neg (by decide), if_pos trivial]
theorem parse_answer {t : Bs.Bytes} : Bs.parse (63 :: t) = Bs.answer t := by
  simp only [Bs.parse]
  rw [if_neg (by decide +kernel), if_neg (by decide +kernel), if_neg (by decide), if_neg (by decide), if_pos trivial]
theorem parse_other {c : UInt8} {t : Bs.Bytes} (h : ¬ Bs.digit c = true) (h1 : c ≠ 45) (h2 : ¬ Bs.headc c = true) (h3 : c ≠ 34) (h4 : c ≠ 58) (h5 : c ≠ 63) : Bs.parse (c :: t) = none := by
  simp only [Bs.parse]
  rw [if_neg (by simp [h, h1]), if_neg h2, if_neg h3, if_neg h4, if_neg h5]

set_option maxHeartbeats 4000000 in
theorem parse_calls (s : ByteArray) (w : World) (hw : Env w) (hs : s.size ≤ 4000000000) :
    Calls Tryz.prog 16 #[.string s] w fun e w' => e = .returned (readV (Bs.parse s.data.toList)) ∧ Below w.heap.size w w' := by
  have hw0 : Env (w.alloc (.cells #[.int .u8 0, .int .i64 0, .string ⟨#[]⟩, .bool false] 23)) := hw.below ((Below.refl _ _).alloc (Nat.le_refl _) _)
  have HW0 := Lib.hid hw0
  clear hw0
  by_cases h0 : 0 < s.size
  · have hne : s.toList.isEmpty = false := by rw [ByteArray.toList_eq]; have := size_pos_ba s; simp [h0] at this ⊢; exact this
    have hl : s.data.toList = s[0] :: s.data.toList.drop 1 := by have := drop_cons s 0 h0; simpa using this
    have HL := Lib.hid hl
    clear hl
    have hb0 := s[0].toNat_lt
    go_enter Tryz.func16, Tryz.ntmps16
    by_cases hd : Bs.digit s[0] = true
    · have h45 : s[0] ≠ 45 := by intro e; rw [e] at hd; exact absurd hd (by decide +kernel)
      go_wp2_with (first | (go_at_call 68; refine (digit_calls _ _).mono ?_; rintro e w' ⟨rfl, rfl⟩) | (go_at_call 70; refine (letter_calls _ _).mono ?_; rintro e w' ⟨rfl, rfl⟩) | fail)
      refine (number_plus s _ (by unfold maxLen; omega) h0 h45).mono ?_
      rintro e w1 ⟨rfl, hb⟩
      have hc1 : ∀ o, w1.cell? ⟨w.heap.size, o, none⟩ = _ := fun o => hb.cell (p := ⟨w.heap.size, o, none⟩) (by simp)
      have hf1 : ∀ o, w1.frozen? ⟨w.heap.size, o, none⟩ = _ := fun o => hb.frozen (p := ⟨w.heap.size, o, none⟩) (by simp)
      have hb2 : Below w.heap.size w w1 := ((Below.refl _ _).alloc (Nat.le_refl _) _).trans (hb.mono (by simp))
      have hb3 : w.heap.size < w1.heap.size := by have := hb.size; simp at this; omega
      clear hb
      have hq : Bs.parse s.data.toList = Bs.numberAt 1 s.data.toList := by rw [HL.out]; exact parse_num hd
      have HQ := Lib.hid hq
      clear hq
      generalize Bs.numberAt 1 s.data.toList = x at *
      rcases x with _ | ⟨b, r⟩
      all_goals simp only [readV, bareV]
      all_goals go_wp2_with fail
      · exact bodyPost_ret (v := readV none) (by simp [results, Tryz.results16, go_sem, hc1, readV]) rfl ⟨by rw [HQ.out], by (repeat' (with_reducible first | exact hb2 | exact Nat.le_refl _ | refine below_set ?_ ?_ | refine below_drew ?_))⟩
      · exact bodyPost_ret (v := readV (some (b, r))) (by simp [results, Tryz.results16, go_sem, hc1, readV, bareV]) rfl ⟨by rw [HQ.out], by (repeat' (with_reducible first | exact hb2 | exact Nat.le_refl _ | refine below_set ?_ ?_ | refine below_drew ?_))⟩
    · have hd' : Bs.digit s[0] = false := by simpa using hd
      by_cases h45 : s[0] = 45
      · have HD := Lib.hid h45
        have y45 : ((s[0].toNat : Int) == 45) = true := eqB_yes (d := 45) h45
        have y42 : ((s[0].toNat : Int) == 42) = false := eqB_no (d := 42) (by rw [h45]; decide)
        have y34 : ((s[0].toNat : Int) == 34) = false := eqB_no (d := 34) (by rw [h45]; decide)
        have y58 : ((s[0].toNat : Int) == 58) = false := eqB_no (d := 58) (by rw [h45]; decide)
        have y63 : ((s[0].toNat : Int) == 63) = false := eqB_no (d := 63) (by rw [h45]; decide)
        clear h45
        go_wp2_with (first | (go_at_call 68; refine (digit_calls _ _).mono ?_; rintro e w' ⟨rfl, rfl⟩) | (go_at_call 70; refine (letter_calls _ _).mono ?_; rintro e w' ⟨rfl, rfl⟩) | fail)
        refine (number_minus s _ (by unfold maxLen; omega) h0 HD.out).mono ?_
        rintro e w1 ⟨rfl, hb⟩
        have hc1 : ∀ o, w1.cell? ⟨w.heap.size, o, none⟩ = _ := fun o => hb.cell (p := ⟨w.heap.size, o, none⟩) (by simp)
        have hf1 : ∀ o, w1.frozen? ⟨w.heap.size, o, none⟩ = _ := fun o => hb.frozen (p := ⟨w.heap.size, o, none⟩) (by simp)
        have hb2 : Below w.heap.size w w1 := ((Below.refl _ _).alloc (Nat.le_refl _) _).trans (hb.mono (by simp))
        have hb3 : w.heap.size < w1.heap.size := by have := hb.size; simp at this; omega
        clear hb
        have hq : Bs.parse s.data.toList = Bs.numberAt (-1) (s.data.toList.drop 1) := by rw [← parse_neg, ← HD.out, ← HL.out]
        have HQ := Lib.hid hq
        clear hq
        generalize Bs.numberAt (-1) (s.data.toList.drop 1) = x at *
        rcases x with _ | ⟨b, r⟩
        all_goals simp only [readV, bareV]
        all_goals go_wp2_with fail
        · exact bodyPost_ret (v := readV none) (by simp [results, Tryz.results16, go_sem, hc1, readV]) rfl ⟨by rw [HQ.out], by (repeat' (with_reducible first | exact hb2 | exact Nat.le_refl _ | refine below_set ?_ ?_ | refine below_drew ?_))⟩
        · exact bodyPost_ret (v := readV (some (b, r))) (by simp [results, Tryz.results16, go_sem, hc1, readV, bareV]) rfl ⟨by rw [HQ.out], by (repeat' (with_reducible first | exact hb2 | exact Nat.le_refl _ | refine below_set ?_ ?_ | refine below_drew ?_))⟩
      · by_cases hL : Bs.letter s[0] = true
        · have y45 : ((s[0].toNat : Int) == 45) = false := eqB_no (d := 45) h45
          go_wp2_with (first | (go_at_call 68; refine (digit_calls _ _).mono ?_; rintro e w' ⟨rfl, rfl⟩) | (go_at_call 70; refine (letter_calls _ _).mono ?_; rintro e w' ⟨rfl, rfl⟩) | fail)
          refine (token_read s _ (by unfold maxLen; omega)).mono ?_
          rintro e w1 ⟨rfl, hb⟩
          have hc1 : ∀ o, w1.cell? ⟨w.heap.size, o, none⟩ = _ := fun o => hb.cell (p := ⟨w.heap.size, o, none⟩) (by simp)
          have hf1 : ∀ o, w1.frozen? ⟨w.heap.size, o, none⟩ = _ := fun o => hb.frozen (p := ⟨w.heap.size, o, none⟩) (by simp)
          have hb2 : Below w.heap.size w w1 := ((Below.refl _ _).alloc (Nat.le_refl _) _).trans (hb.mono (by simp))
          have hb3 : w.heap.size < w1.heap.size := by have := hb.size; simp at this; omega
          clear hb
          have hq : Bs.parse s.data.toList = some (Bs.txt 4 (s.data.toList.takeWhile Bs.tokc), s.data.toList.dropWhile Bs.tokc) := by rw [HL.out]; exact parse_tok hd h45 (by simp [Bs.headc, hL])
          have HQ := Lib.hid hq
          clear hq
          generalize some (Bs.txt 4 (s.data.toList.takeWhile Bs.tokc), s.data.toList.dropWhile Bs.tokc) = x at *
          rcases x with _ | ⟨b, r⟩
          all_goals simp only [readV, bareV]
          all_goals go_wp2_with fail
          · exact bodyPost_ret (v := readV none) (by simp [results, Tryz.results16, go_sem, hc1, readV]) rfl ⟨by rw [HQ.out], by (repeat' (with_reducible first | exact hb2 | exact Nat.le_refl _ | refine below_set ?_ ?_ | refine below_drew ?_))⟩
          · exact bodyPost_ret (v := readV (some (b, r))) (by simp [results, Tryz.results16, go_sem, hc1, readV, bareV]) rfl ⟨by rw [HQ.out], by (repeat' (with_reducible first | exact hb2 | exact Nat.le_refl _ | refine below_set ?_ ?_ | refine below_drew ?_))⟩
        · have hL' : Bs.letter s[0] = false := by simpa using hL
          by_cases h42 : s[0] = 42
          · have HD := Lib.hid h42
            have y45 : ((s[0].toNat : Int) == 45) = false := eqB_no (d := 45) (by rw [h42]; decide)
            have y42 : ((s[0].toNat : Int) == 42) = true := eqB_yes (d := 42) h42
            have y34 : ((s[0].toNat : Int) == 34) = false := eqB_no (d := 34) (by rw [h42]; decide)
            have y58 : ((s[0].toNat : Int) == 58) = false := eqB_no (d := 58) (by rw [h42]; decide)
            have y63 : ((s[0].toNat : Int) == 63) = false := eqB_no (d := 63) (by rw [h42]; decide)
            clear h42
            go_wp2_with (first | (go_at_call 68; refine (digit_calls _ _).mono ?_; rintro e w' ⟨rfl, rfl⟩) | (go_at_call 70; refine (letter_calls _ _).mono ?_; rintro e w' ⟨rfl, rfl⟩) | fail)
            refine (token_read s _ (by unfold maxLen; omega)).mono ?_
            rintro e w1 ⟨rfl, hb⟩
            have hc1 : ∀ o, w1.cell? ⟨w.heap.size, o, none⟩ = _ := fun o => hb.cell (p := ⟨w.heap.size, o, none⟩) (by simp)
            have hf1 : ∀ o, w1.frozen? ⟨w.heap.size, o, none⟩ = _ := fun o => hb.frozen (p := ⟨w.heap.size, o, none⟩) (by simp)
            have hb2 : Below w.heap.size w w1 := ((Below.refl _ _).alloc (Nat.le_refl _) _).trans (hb.mono (by simp))
            have hb3 : w.heap.size < w1.heap.size := by have := hb.size; simp at this; omega
            clear hb
            have hq : Bs.parse s.data.toList = some (Bs.txt 4 (s.data.toList.takeWhile Bs.tokc), s.data.toList.dropWhile Bs.tokc) := by rw [HL.out]; exact parse_tok hd h45 (by rw [HD.out]; decide +kernel)
            have HQ := Lib.hid hq
            clear hq
            generalize some (Bs.txt 4 (s.data.toList.takeWhile Bs.tokc), s.data.toList.dropWhile Bs.tokc) = x at *
            rcases x with _ | ⟨b, r⟩
            all_goals simp only [readV, bareV]
            all_goals go_wp2_with fail
            · exact bodyPost_ret (v := readV none) (by simp [results, Tryz.results16, go_sem, hc1, readV]) rfl ⟨by rw [HQ.out], by (repeat' (with_reducible first | exact hb2 | exact Nat.le_refl _ | refine below_set ?_ ?_ | refine below_drew ?_))⟩
            · exact bodyPost_ret (v := readV (some (b, r))) (by simp [results, Tryz.results16, go_sem, hc1, readV, bareV]) rfl ⟨by rw [HQ.out], by (repeat' (with_reducible first | exact hb2 | exact Nat.le_refl _ | refine below_set ?_ ?_ | refine below_drew ?_))⟩
          · have hh : ¬ Bs.headc s[0] = true := by simp [Bs.headc, hL', h42]
            by_cases h34 : s[0] = 34
            · have HD := Lib.hid h34
              have y45 : ((s[0].toNat : Int) == 45) = false := eqB_no (d := 45) (by rw [h34]; decide)
              have y42 : ((s[0].toNat : Int) == 42) = false := eqB_no (d := 42) (by rw [h34]; decide)
              have y34 : ((s[0].toNat : Int) == 34) = true := eqB_yes (d := 34) h34
              have y58 : ((s[0].toNat : Int) == 58) = false := eqB_no (d := 58) (by rw [h34]; decide)
              have y63 : ((s[0].toNat : Int) == 63) = false := eqB_no (d := 63) (by rw [h34]; decide)
              clear h34
              go_wp2_with (first | (go_at_call 68; refine (digit_calls _ _).mono ?_; rintro e w' ⟨rfl, rfl⟩) | (go_at_call 70; refine (letter_calls _ _).mono ?_; rintro e w' ⟨rfl, rfl⟩) | fail)
              refine (quoted_calls s _ (by omega) h0).mono ?_
              rintro e w1 ⟨rfl, hb⟩
              have hc1 : ∀ o, w1.cell? ⟨w.heap.size, o, none⟩ = _ := fun o => hb.cell (p := ⟨w.heap.size, o, none⟩) (by simp)
              have hf1 : ∀ o, w1.frozen? ⟨w.heap.size, o, none⟩ = _ := fun o => hb.frozen (p := ⟨w.heap.size, o, none⟩) (by simp)
              have hb2 : Below w.heap.size w w1 := ((Below.refl _ _).alloc (Nat.le_refl _) _).trans (hb.mono (by simp))
              have hb3 : w.heap.size < w1.heap.size := by have := hb.size; simp at this; omega
              clear hb
              have hq : Bs.parse s.data.toList = Bs.quoted [] (s.data.toList.drop 1) := by rw [← parse_quoted, ← HD.out, ← HL.out]
              have HQ := Lib.hid hq
              clear hq
              generalize Bs.quoted [] (s.data.toList.drop 1) = x at *
              rcases x with _ | ⟨b, r⟩
              all_goals simp only [readV, bareV]
              all_goals go_wp2_with fail
              · exact bodyPost_ret (v := readV none) (by simp [results, Tryz.results16, go_sem, hc1, readV]) rfl ⟨by rw [HQ.out], by (repeat' (with_reducible first | exact hb2 | exact Nat.le_refl _ | refine below_set ?_ ?_ | refine below_drew ?_))⟩
              · exact bodyPost_ret (v := readV (some (b, r))) (by simp [results, Tryz.results16, go_sem, hc1, readV, bareV]) rfl ⟨by rw [HQ.out], by (repeat' (with_reducible first | exact hb2 | exact Nat.le_refl _ | refine below_set ?_ ?_ | refine below_drew ?_))⟩
            · by_cases h58 : s[0] = 58
              · have HD := Lib.hid h58
                have y45 : ((s[0].toNat : Int) == 45) = false := eqB_no (d := 45) (by rw [h58]; decide)
                have y42 : ((s[0].toNat : Int) == 42) = false := eqB_no (d := 42) (by rw [h58]; decide)
                have y34 : ((s[0].toNat : Int) == 34) = false := eqB_no (d := 34) (by rw [h58]; decide)
                have y58 : ((s[0].toNat : Int) == 58) = true := eqB_yes (d := 58) h58
                have y63 : ((s[0].toNat : Int) == 63) = false := eqB_no (d := 63) (by rw [h58]; decide)
                clear h58
                go_wp2_with (first | (go_at_call 68; refine (digit_calls _ _).mono ?_; rintro e w' ⟨rfl, rfl⟩) | (go_at_call 70; refine (letter_calls _ _).mono ?_; rintro e w' ⟨rfl, rfl⟩) | fail)
                refine (packed_calls s _ HW0.out hs h0).mono ?_
                rintro e w1 ⟨rfl, hb⟩
                have hc1 : ∀ o, w1.cell? ⟨w.heap.size, o, none⟩ = _ := fun o => hb.cell (p := ⟨w.heap.size, o, none⟩) (by simp)
                have hf1 : ∀ o, w1.frozen? ⟨w.heap.size, o, none⟩ = _ := fun o => hb.frozen (p := ⟨w.heap.size, o, none⟩) (by simp)
                have hb2 : Below w.heap.size w w1 := ((Below.refl _ _).alloc (Nat.le_refl _) _).trans (hb.mono (by simp))
                have hb3 : w.heap.size < w1.heap.size := by have := hb.size; simp at this; omega
                clear hb
                have hq : Bs.parse s.data.toList = Bs.packed (s.data.toList.drop 1) := by rw [← parse_packed, ← HD.out, ← HL.out]
                have HQ := Lib.hid hq
                clear hq
                generalize Bs.packed (s.data.toList.drop 1) = x at *
                rcases x with _ | ⟨b, r⟩
                all_goals simp only [readV, bareV]
                all_goals go_wp2_with fail
                · exact bodyPost_ret (v := readV none) (by simp [results, Tryz.results16, go_sem, hc1, readV]) rfl ⟨by rw [HQ.out], by (repeat' (with_reducible first | exact hb2 | exact Nat.le_refl _ | refine below_set ?_ ?_ | refine below_drew ?_))⟩
                · exact bodyPost_ret (v := readV (some (b, r))) (by simp [results, Tryz.results16, go_sem, hc1, readV, bareV]) rfl ⟨by rw [HQ.out], by (repeat' (with_reducible first | exact hb2 | exact Nat.le_refl _ | refine below_set ?_ ?_ | refine below_drew ?_))⟩
              · by_cases h63 : s[0] = 63
                · have HD := Lib.hid h63
                  have y45 : ((s[0].toNat : Int) == 45) = false := eqB_no (d := 45) (by rw [h63]; decide)
                  have y42 : ((s[0].toNat : Int) == 42) = false := eqB_no (d := 42) (by rw [h63]; decide)
                  have y34 : ((s[0].toNat : Int) == 34) = false := eqB_no (d := 34) (by rw [h63]; decide)
                  have y58 : ((s[0].toNat : Int) == 58) = false := eqB_no (d := 58) (by rw [h63]; decide)
                  have y63 : ((s[0].toNat : Int) == 63) = true := eqB_yes (d := 63) h63
                  clear h63
                  go_wp2_with (first | (go_at_call 68; refine (digit_calls _ _).mono ?_; rintro e w' ⟨rfl, rfl⟩) | (go_at_call 70; refine (letter_calls _ _).mono ?_; rintro e w' ⟨rfl, rfl⟩) | fail)
                  refine (answer_calls s _ (by unfold maxLen; omega) h0).mono ?_
                  rintro e w1 ⟨rfl, hb⟩
                  have hc1 : ∀ o, w1.cell? ⟨w.heap.size, o, none⟩ = _ := fun o => hb.cell (p := ⟨w.heap.size, o, none⟩) (by simp)
                  have hf1 : ∀ o, w1.frozen? ⟨w.heap.size, o, none⟩ = _ := fun o => hb.frozen (p := ⟨w.heap.size, o, none⟩) (by simp)
                  have hb2 : Below w.heap.size w w1 := ((Below.refl _ _).alloc (Nat.le_refl _) _).trans (hb.mono (by simp))
                  have hb3 : w.heap.size < w1.heap.size := by have := hb.size; simp at this; omega
                  clear hb
                  have hq : Bs.parse s.data.toList = Bs.answer (s.data.toList.drop 1) := by rw [← parse_answer, ← HD.out, ← HL.out]
                  have HQ := Lib.hid hq
                  clear hq
                  generalize Bs.answer (s.data.toList.drop 1) = x at *
                  rcases x with _ | ⟨b, r⟩
                  all_goals simp only [readV, bareV]
                  all_goals go_wp2_with fail
                  · exact bodyPost_ret (v := readV none) (by simp [results, Tryz.results16, go_sem, hc1, readV]) rfl ⟨by rw [HQ.out], by (repeat' (with_reducible first | exact hb2 | exact Nat.le_refl _ | refine below_set ?_ ?_ | refine below_drew ?_))⟩
                  · exact bodyPost_ret (v := readV (some (b, r))) (by simp [results, Tryz.results16, go_sem, hc1, readV, bareV]) rfl ⟨by rw [HQ.out], by (repeat' (with_reducible first | exact hb2 | exact Nat.le_refl _ | refine below_set ?_ ?_ | refine below_drew ?_))⟩
                · have y45 : ((s[0].toNat : Int) == 45) = false := eqB_no (d := 45) h45
                  have y42 : ((s[0].toNat : Int) == 42) = false := eqB_no (d := 42) h42
                  have y34 : ((s[0].toNat : Int) == 34) = false := eqB_no (d := 34) h34
                  have y58 : ((s[0].toNat : Int) == 58) = false := eqB_no (d := 58) h58
                  have y63 : ((s[0].toNat : Int) == 63) = false := eqB_no (d := 63) h63
                  have hq : Bs.parse s.data.toList = none := by rw [HL.out]; exact parse_other hd h45 hh h34 h58 h63
                  have HQ := Lib.hid hq
                  clear hq
                  go_wp2_with (first | (go_at_call 68; refine (digit_calls _ _).mono ?_; rintro e w' ⟨rfl, rfl⟩) | (go_at_call 70; refine (letter_calls _ _).mono ?_; rintro e w' ⟨rfl, rfl⟩) | fail)
                  exact bodyPost_ret (v := readV none) (by simp [results, Tryz.results16, go_sem, readV]) rfl ⟨by rw [HQ.out], (Below.refl _ _).alloc (Nat.le_refl _) _⟩
  · have hz : s.data.toList.length = s.size := by simp
    have hl : s.data.toList = [] := List.eq_nil_of_length_eq_zero (by omega)
    clear hz
    have hne : s.toList.isEmpty = true := by rw [ByteArray.toList_eq, hl]; rfl
    have HL := Lib.hid hl
    clear hl
    go_enter Tryz.func16, Tryz.ntmps16
    go_wp2_with fail
    exact bodyPost_ret (v := readV none) (by simp [results, Tryz.results16, go_sem, readV]) rfl ⟨by rw [HL.out]; rfl, (Below.refl _ _).alloc (Nat.le_refl _) _⟩

end Go.Proofs.YtgamebffdcpjaaaGreatDoor
