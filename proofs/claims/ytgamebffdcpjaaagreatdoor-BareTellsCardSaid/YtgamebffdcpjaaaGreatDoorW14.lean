/- Walks: any bare item that a text begins with, as the reference reads it. -/
import Derived.Test.YtgamebffdcpjaaaGreatDoorW6
import Derived.Test.YtgamebffdcpjaaaGreatDoorW13
namespace Go.Proofs.YtgamebffdcpjaaaGreatDoor
open Go.RowKit
set_option maxRecDepth 100000

theorem size_ne (s : ByteArray) (h : 0 < s.size) : ((s.size : Int) == 0) = false := by rw [beq_eq_false_iff_ne]; omega
theorem tok_start {l : Bs.Bytes} {c : UInt8} (e : c = l.getD 0 0) (h : Bs.tokc c = true) : ∀ j, j < 1 → Bs.tokc (l.getD j 0) = true := by
  intro j hj
  obtain rfl : j = 0 := by omega
  rw [← e]; exact h

set_option maxHeartbeats 4000000 in
theorem rparse_num (s : ByteArray) (w : World) (hs : s.size ≤ 4000000000) (h0 : 0 < s.size) (hd : Bs.digit s[0] = true) :
    Calls Tryz.prog 17 #[.string s] w fun e w' => e = .returned (readV (Bs.parse s.data.toList)) ∧ Below w.heap.size w w' := by
  have hb0 := s[0].toNat_lt
  have hn0 : ((s.size : Int) == 0) = false := size_ne s h0
  have hl : s.data.toList = s[0] :: s.data.toList.drop 1 := by have := drop_cons s 0 h0; simpa using this
  have HL := Lib.hid hl
  clear hl
  have h45 : s[0] ≠ 45 := by intro e; rw [e] at hd; exact absurd hd (by decide +kernel)
  go_enter Tryz.func17, Tryz.ntmps17
  go_wp2_with (first | (go_at_call 76; refine (rdigit_calls _ _).mono ?_; rintro e w' ⟨rfl, rfl⟩) | (go_at_call 79; refine (rletter_calls _ _).mono ?_; rintro e w' ⟨rfl, rfl⟩) | fail)
  refine (rnumber_plus s _ (by unfold maxLen; omega) h0 h45).mono ?_
  rintro e w1 ⟨rfl, hb⟩
  have hc1 : ∀ o, w1.cell? ⟨w.heap.size, o, none⟩ = _ := fun o => hb.cell (p := ⟨w.heap.size, o, none⟩) (by simp)
  have hf1 : ∀ o, w1.frozen? ⟨w.heap.size, o, none⟩ = _ := fun o => hb.frozen (p := ⟨w.heap.size, o, none⟩) (by simp)
  have hb2 : Below w.heap.size w w1 := ((Below.refl _ _).alloc (Nat.le_refl _) _).trans (hb.mono (by simp))
  have hb3 : w.heap.size < w1.heap.size := by have := hb.size; simp at this; omega
  clear hb
  have hq : Bs.parse s.data.toList = Bs.numberAt 1 s.data.toList := by rw [HL.out]; exact parse_num hd
  have HQ := Lib.hid hq
  clear hq
  generalize Bs.numberAt 1 s.data.toList = x at *
  rcases x with _ | ⟨b, r⟩
  all_goals simp only [readV, bareV]
  all_goals go_wp2_with fail
  · exact bodyPost_ret (v := readV none) (by simp [results, Tryz.results17, go_sem, hc1, readV]) rfl ⟨by rw [HQ.out], by (repeat' (with_reducible first | exact hb2 | exact Nat.le_refl _ | refine below_set ?_ ?_ | refine below_drew ?_))⟩
  · exact bodyPost_ret (v := readV (some (b, r))) (by simp [results, Tryz.results17, go_sem, hc1, readV, bareV]) rfl ⟨by rw [HQ.out], by (repeat' (with_reducible first | exact hb2 | exact Nat.le_refl _ | refine below_set ?_ ?_ | refine below_drew ?_))⟩

set_option maxHeartbeats 4000000 in
theorem rparse_neg (s : ByteArray) (w : World) (hs : s.size ≤ 4000000000) (h0 : 0 < s.size) (h45 : s[0] = 45) :
    Calls Tryz.prog 17 #[.string s] w fun e w' => e = .returned (readV (Bs.parse s.data.toList)) ∧ Below w.heap.size w w' := by
  have hb0 := s[0].toNat_lt
  have hn0 : ((s.size : Int) == 0) = false := size_ne s h0
  have hl : s.data.toList = s[0] :: s.data.toList.drop 1 := by have := drop_cons s 0 h0; simpa using this
  have HL := Lib.hid hl
  clear hl
  have HD := Lib.hid h45
  have hd' : Bs.digit s[0] = false := by rw [h45]; decide +kernel
  have y45 : ((s[0].toNat : Int) == 45) = true := eqB_yes (d := 45) h45
  have y42 : ((s[0].toNat : Int) == 42) = false := eqB_no (d := 42) (by rw [h45]; decide)
  have y34 : ((s[0].toNat : Int) == 34) = false := eqB_no (d := 34) (by rw [h45]; decide)
  have y58 : ((s[0].toNat : Int) == 58) = false := eqB_no (d := 58) (by rw [h45]; decide)
  have y63 : ((s[0].toNat : Int) == 63) = false := eqB_no (d := 63) (by rw [h45]; decide)
  clear h45
  go_enter Tryz.func17, Tryz.ntmps17
  go_wp2_with (first | (go_at_call 76; refine (rdigit_calls _ _).mono ?_; rintro e w' ⟨rfl, rfl⟩) | (go_at_call 79; refine (rletter_calls _ _).mono ?_; rintro e w' ⟨rfl, rfl⟩) | fail)
  refine (rnumber_minus s _ (by unfold maxLen; omega) h0 HD.out).mono ?_
  rintro e w1 ⟨rfl, hb⟩
  have hc1 : ∀ o, w1.cell? ⟨w.heap.size, o, none⟩ = _ := fun o => hb.cell (p := ⟨w.heap.size, o, none⟩) (by simp)
  have hf1 : ∀ o, w1.frozen? ⟨w.heap.size, o, none⟩ = _ := fun o => hb.frozen (p := ⟨w.heap.size, o, none⟩) (by simp)
  have hb2 : Below w.heap.size w w1 := ((Below.refl _ _).alloc (Nat.le_refl _) _).trans (hb.mono (by simp))
  have hb3 : w.heap.size < w1.heap.size := by have := hb.size; simp at this; omega
  clear hb
  have hq : Bs.parse s.data.toList = Bs.numberAt (-1) (s.data.toList.drop 1) := by rw [← parse_neg, ← HD.out, ← HL.out]
  have HQ := Lib.hid hq
  clear hq
  generalize Bs.numberAt (-1) (s.data.toList.drop 1) = x at *
  rcases x with _ | ⟨b, r⟩
  all_goals simp only [readV, bareV]
  all_goals go_wp2_with fail
  · exact bodyPost_ret (v := readV none) (by simp [results, Tryz.results17, go_sem, hc1, readV]) rfl ⟨by rw [HQ.out], by (repeat' (with_reducible first | exact hb2 | exact Nat.le_refl _ | refine below_set ?_ ?_ | refine below_drew ?_))⟩
  · exact bodyPost_ret (v := readV (some (b, r))) (by simp [results, Tryz.results17, go_sem, hc1, readV, bareV]) rfl ⟨by rw [HQ.out], by (repeat' (with_reducible first | exact hb2 | exact Nat.le_refl _ | refine below_set ?_ ?_ | refine below_drew ?_))⟩

set_option maxHeartbeats 4000000 in
theorem rparse_quoted (s : ByteArray) (w : World) (hs : s.size ≤ 4000000000) (h0 : 0 < s.size) (h34 : s[0] = 34) :
    Calls Tryz.prog 17 #[.string s] w fun e w' => e = .returned (readV (Bs.parse s.data.toList)) ∧ Below w.heap.size w w' := by
  have hb0 := s[0].toNat_lt
  have hn0 : ((s.size : Int) == 0) = false := size_ne s h0
  have hl : s.data.toList = s[0] :: s.data.toList.drop 1 := by have := drop_cons s 0 h0; simpa using this
  have HL := Lib.hid hl
  clear hl
  have HD := Lib.hid h34
  have hd' : Bs.digit s[0] = false := by rw [h34]; decide +kernel
  have y45 : ((s[0].toNat : Int) == 45) = false := eqB_no (d := 45) (by rw [h34]; decide)
  have y42 : ((s[0].toNat : Int) == 42) = false := eqB_no (d := 42) (by rw [h34]; decide)
  have y34 : ((s[0].toNat : Int) == 34) = true := eqB_yes (d := 34) h34
  have y58 : ((s[0].toNat : Int) == 58) = false := eqB_no (d := 58) (by rw [h34]; decide)
  have y63 : ((s[0].toNat : Int) == 63) = false := eqB_no (d := 63) (by rw [h34]; decide)
  clear h34
  go_enter Tryz.func17, Tryz.ntmps17
  go_wp2_with (first | (go_at_call 76; refine (rdigit_calls _ _).mono ?_; rintro e w' ⟨rfl, rfl⟩) | (go_at_call 79; refine (rletter_calls _ _).mono ?_; rintro e w' ⟨rfl, rfl⟩) | fail)
  refine (rquoted_calls s _ (by omega) h0).mono ?_
  rintro e w1 ⟨rfl, hb⟩
  have hc1 : ∀ o, w1.cell? ⟨w.heap.size, o, none⟩ = _ := fun o => hb.cell (p := ⟨w.heap.size, o, none⟩) (by simp)
  have hf1 : ∀ o, w1.frozen? ⟨w.heap.size, o, none⟩ = _ := fun o => hb.frozen (p := ⟨w.heap.size, o, none⟩) (by simp)
  have hb2 : Below w.heap.size w w1 := ((Below.refl _ _).alloc (Nat.le_refl _) _).trans (hb.mono (by simp))
  have hb3 : w.heap.size < w1.heap.size := by have := hb.size; simp at this; omega
  clear hb
  have hq : Bs.parse s.data.toList = Bs.quoted [] (s.data.toList.drop 1) := by rw [← parse_quoted, ← HD.out, ← HL.out]
  have HQ := Lib.hid hq
  clear hq
  generalize Bs.quoted [] (s.data.toList.drop 1) = x at *
  rcases x with _ | ⟨b, r⟩
  all_goals simp only [readV, bareV]
  all_goals go_wp2_with fail
  · exact bodyPost_ret (v := readV none) (by simp [results, Tryz.results17, go_sem, hc1, readV]) rfl ⟨by rw [HQ.out], by (repeat' (with_reducible first | exact hb2 | exact Nat.le_refl _ | refine below_set ?_ ?_ | refine below_drew ?_))⟩
  · exact bodyPost_ret (v := readV (some (b, r))) (by simp [results, Tryz.results17, go_sem, hc1, readV, bareV]) rfl ⟨by rw [HQ.out], by (repeat' (with_reducible first | exact hb2 | exact Nat.le_refl _ | refine below_set ?_ ?_ | refine below_drew ?_))⟩

theorem take_tok {l : Bs.Bytes} {k : Nat} (hk : 1 ≤ k) (hl : k < l.length) (hh : Bs.headc (l.getD 0 0) = true) (ht : ∀ j, j < k → Bs.tokc (l.getD j 0) = true) : Bs.token (l.take (k + 1)) = Bs.tokc (l.getD k 0) := by
  cases l with
  | nil => simp at hl
  | cons c t =>
    obtain ⟨q, rfl⟩ : ∃ q, k = q + 1 := ⟨k - 1, by omega⟩
    have hq : q < t.length := by simpa using hl
    simp only [List.getD_cons_zero] at hh
    rw [List.take_succ_cons, Bs.token, hh, Bool.true_and, getD_cons, List.take_succ_eq_append_getElem hq, List.all_append]
    have : (t.take q).all Bs.tokc = true := by
      rw [List.all_eq_true]
      intro x hx
      obtain ⟨j, hj, e⟩ := List.getElem_of_mem hx
      simp only [List.length_take] at hj
      have := ht (j + 1) (by omega)
      rw [getD_cons, List.getD_eq_getElem?_getD, List.getElem?_eq_getElem (by omega)] at this
      rw [← e, List.getElem_take]; exact this
    rw [this, List.getD_eq_getElem?_getD, List.getElem?_eq_getElem hq]
    simp

set_option maxHeartbeats 4000000 in
theorem rparse_letter (s : ByteArray) (w : World) (hs : s.size ≤ 4000000000) (h0 : 0 < s.size) (hd : ¬ Bs.digit s[0] = true) (h45 : s[0] ≠ 45) (h34 : s[0] ≠ 34) (hLt : Bs.letter s[0] = true) :
    Calls Tryz.prog 17 #[.string s] w fun e w' => e = .returned (readV (Bs.parse s.data.toList)) ∧ Below w.heap.size w w' := by
  have hb0 := s[0].toNat_lt
  have hn0 : ((s.size : Int) == 0) = false := size_ne s h0
  have hl : s.data.toList = s[0] :: s.data.toList.drop 1 := by have := drop_cons s 0 h0; simpa using this
  have HL := Lib.hid hl
  clear hl
  have hh : Bs.headc s[0] = true := by simp [Bs.headc, hLt]
  have hnd : ¬ Bs.digit s[0] = true := hd
  have hd' : Bs.digit s[0] = false := by simpa using hd
  have hq0 : Bs.parse s.data.toList = some (Bs.txt 4 (s.data.toList.takeWhile Bs.tokc), s.data.toList.dropWhile Bs.tokc) := by rw [HL.out]; exact parse_tok hd h45 hh
  have HQ0 := Lib.hid hq0
  have HH := Lib.hid hh
  have HG0 := Lib.hid (ba_get s 0 h0)
  have HT0 := Lib.hid (headc_tokc hh)
  clear hq0
  have y45 : ((s[0].toNat : Int) == 45) = false := eqB_no (d := 45) h45
  have y34 : ((s[0].toNat : Int) == 34) = false := eqB_no (d := 34) h34
  go_enter Tryz.func17, Tryz.ntmps17
  go_wp2_with (first | (go_at_call 76; refine (rdigit_calls _ _).mono ?_; rintro e w' ⟨rfl, rfl⟩) | (go_at_call 79; refine (rletter_calls _ _).mono ?_; rintro e w' ⟨rfl, rfl⟩) | fail)
  go_loop [6] (fun i => ∃ k : Nat, 1 ≤ k ∧ k ≤ s.size ∧ i = .int .i64 (k : Int) ∧ ∀ j, j < k → Bs.tokc (s.data.toList.getD j 0) = true) (fun i => s.size - (intOf i).toNat)
  case atStart => exact ⟨1, by omega, h0, rfl, tok_start HG0.out HT0.out⟩
  case round =>
    obtain ⟨k, hk1, hk, rfl, ht⟩ := hrel
    have HT := Lib.hid ht
    clear ht
    by_cases hlt : k < s.size
    · have hlt' : (k : Int) < (s.size : Int) := by omega
      have HG := Lib.hid (ba_get s k hlt)
      obtain ⟨p, hp⟩ : ∃ p, p = s.extract 0 (k + 1) := ⟨_, rfl⟩
      have hpl : p.data.toList = s.data.toList.take (k + 1) := by rw [hp, Lib.extract_data]; simp
      have hps : p.size ≤ 4000000000 := by
        have e1 : p.data.toList.length = p.size := by simp
        rw [← e1, hpl, List.length_take]; simp; omega
      have htk := take_tok (l := s.data.toList) hk1 (by simpa using hlt) (by rw [← HG0.out]; exact HH.out) HT.out
      rw [← hpl, ← HG.out] at htk
      have HTK := Lib.hid htk
      have HP := Lib.hid hp
      clear htk hp hpl
      cases hx : Bs.tokc s[k] with
      | true =>
        have HX := Lib.hid hx
        clear hx
        go_wp2_with (go_at_call 23; rw [← HP.out]; refine (rtoken_calls _ _ (by unfold maxLen; omega)).mono ?_; rintro e w' ⟨rfl, rfl⟩; rw [HTK.out, HX.out])
        exact ⟨⟨k + 1, by omega, by omega, by go_num, all_succ HT.out HG.out HX.out⟩, by simp [intOf]; omega⟩
      | false =>
        have HX := Lib.hid hx
        clear hx
        go_wp2_with (go_at_call 23; rw [← HP.out]; refine (rtoken_calls _ _ (by unfold maxLen; omega)).mono ?_; rintro e w' ⟨rfl, rfl⟩; rw [HTK.out, HX.out])
        go_region
        go_wp2_with fail
        have hrun : Bs.run Bs.tokc s.data.toList = k := run_at (by simpa using hlt) HT.out (by rw [← HG.out]; exact HX.out)
        refine bodyPost_ret (v := readV (some (Bs.txt 4 (s.data.toList.take k), s.data.toList.drop k))) ?_ rfl ⟨?_, ?_⟩
        · simp [results, Tryz.results17, go_sem, readV, bareV, Bs.txt]
          exact ⟨ba_mk' (by rw [Lib.extract_data]; simp), ba_mk' (Lib.extract_to_end _ _)⟩
        · rw [HQ0.out, ← hrun, take_run, drop_run]
        · exact ((Below.refl _ _).alloc (Nat.le_refl _) _).drew
    · have hlt' : (s.size : Int) ≤ (k : Int) := by omega
      have hk' : k = s.size := by omega
      have HK := Lib.hid hk'
      clear hk'
      go_wp2_with fail
      go_region
      go_wp2_with fail
      have hrun : Bs.run Bs.tokc s.data.toList = k := by rw [run_all (fun j hj => HT.out j (by rw [HK.out]; simpa using hj)), HK.out]; simp
      refine bodyPost_ret (v := readV (some (Bs.txt 4 (s.data.toList.take k), s.data.toList.drop k))) ?_ rfl ⟨?_, ?_⟩
      · simp [results, Tryz.results17, go_sem, readV, bareV, Bs.txt]
        exact ⟨ba_mk' (by rw [Lib.extract_data]; simp), ba_mk' (Lib.extract_to_end _ _)⟩
      · rw [HQ0.out, ← hrun, take_run, drop_run]
      · exact ((Below.refl _ _).alloc (Nat.le_refl _) _).drew

set_option maxHeartbeats 4000000 in
theorem rparse_star (s : ByteArray) (w : World) (hs : s.size ≤ 4000000000) (h0 : 0 < s.size) (h42 : s[0] = 42) :
    Calls Tryz.prog 17 #[.string s] w fun e w' => e = .returned (readV (Bs.parse s.data.toList)) ∧ Below w.heap.size w w' := by
  have hb0 := s[0].toNat_lt
  have hn0 : ((s.size : Int) == 0) = false := size_ne s h0
  have hl : s.data.toList = s[0] :: s.data.toList.drop 1 := by have := drop_cons s 0 h0; simpa using this
  have HL := Lib.hid hl
  clear hl
  have hd : ¬ Bs.digit s[0] = true := by rw [h42]; decide +kernel
  have h45 : s[0] ≠ 45 := by rw [h42]; decide
  have hh : Bs.headc s[0] = true := by rw [h42]; decide +kernel
  have hL' : Bs.letter s[0] = false := by rw [h42]; decide +kernel
  have hnd : ¬ Bs.digit s[0] = true := hd
  have hd' : Bs.digit s[0] = false := by simpa using hd
  have hq0 : Bs.parse s.data.toList = some (Bs.txt 4 (s.data.toList.takeWhile Bs.tokc), s.data.toList.dropWhile Bs.tokc) := by rw [HL.out]; exact parse_tok hd h45 hh
  have HQ0 := Lib.hid hq0
  have HH := Lib.hid hh
  have HG0 := Lib.hid (ba_get s 0 h0)
  have HT0 := Lib.hid (headc_tokc hh)
  clear hq0
  have y45 : ((s[0].toNat : Int) == 45) = false := eqB_no (d := 45) (by rw [h42]; decide)
  have y42 : ((s[0].toNat : Int) == 42) = true := eqB_yes (d := 42) h42
  have y34 : ((s[0].toNat : Int) == 34) = false := eqB_no (d := 34) (by rw [h42]; decide)
  have y58 : ((s[0].toNat : Int) == 58) = false := eqB_no (d := 58) (by rw [h42]; decide)
  have y63 : ((s[0].toNat : Int) == 63) = false := eqB_no (d := 63) (by rw [h42]; decide)
  clear h42
  go_enter Tryz.func17, Tryz.ntmps17
  go_wp2_with (first | (go_at_call 76; refine (rdigit_calls _ _).mono ?_; rintro e w' ⟨rfl, rfl⟩) | (go_at_call 79; refine (rletter_calls _ _).mono ?_; rintro e w' ⟨rfl, rfl⟩) | fail)
  go_loop [6] (fun i => ∃ k : Nat, 1 ≤ k ∧ k ≤ s.size ∧ i = .int .i64 (k : Int) ∧ ∀ j, j < k → Bs.tokc (s.data.toList.getD j 0) = true) (fun i => s.size - (intOf i).toNat)
  case atStart => exact ⟨1, by omega, h0, rfl, tok_start HG0.out HT0.out⟩
  case round =>
    obtain ⟨k, hk1, hk, rfl, ht⟩ := hrel
    have HT := Lib.hid ht
    clear ht
    by_cases hlt : k < s.size
    · have hlt' : (k : Int) < (s.size : Int) := by omega
      have HG := Lib.hid (ba_get s k hlt)
      obtain ⟨p, hp⟩ : ∃ p, p = s.extract 0 (k + 1) := ⟨_, rfl⟩
      have hpl : p.data.toList = s.data.toList.take (k + 1) := by rw [hp, Lib.extract_data]; simp
      have hps : p.size ≤ 4000000000 := by
        have e1 : p.data.toList.length = p.size := by simp
        rw [← e1, hpl, List.length_take]; simp; omega
      have htk := take_tok (l := s.data.toList) hk1 (by simpa using hlt) (by rw [← HG0.out]; exact HH.out) HT.out
      rw [← hpl, ← HG.out] at htk
      have HTK := Lib.hid htk
      have HP := Lib.hid hp
      clear htk hp hpl
      cases hx : Bs.tokc s[k] with
      | true =>
        have HX := Lib.hid hx
        clear hx
        go_wp2_with (go_at_call 23; rw [← HP.out]; refine (rtoken_calls _ _ (by unfold maxLen; omega)).mono ?_; rintro e w' ⟨rfl, rfl⟩; rw [HTK.out, HX.out])
        exact ⟨⟨k + 1, by omega, by omega, by go_num, all_succ HT.out HG.out HX.out⟩, by simp [intOf]; omega⟩
      | false =>
        have HX := Lib.hid hx
        clear hx
        go_wp2_with (go_at_call 23; rw [← HP.out]; refine (rtoken_calls _ _ (by unfold maxLen; omega)).mono ?_; rintro e w' ⟨rfl, rfl⟩; rw [HTK.out, HX.out])
        go_region
        go_wp2_with fail
        have hrun : Bs.run Bs.tokc s.data.toList = k := run_at (by simpa using hlt) HT.out (by rw [← HG.out]; exact HX.out)
        refine bodyPost_ret (v := readV (some (Bs.txt 4 (s.data.toList.take k), s.data.toList.drop k))) ?_ rfl ⟨?_, ?_⟩
        · simp [results, Tryz.results17, go_sem, readV, bareV, Bs.txt]
          exact ⟨ba_mk' (by rw [Lib.extract_data]; simp), ba_mk' (Lib.extract_to_end _ _)⟩
        · rw [HQ0.out, ← hrun, take_run, drop_run]
        · exact ((Below.refl _ _).alloc (Nat.le_refl _) _).drew
    · have hlt' : (s.size : Int) ≤ (k : Int) := by omega
      have hk' : k = s.size := by omega
      have HK := Lib.hid hk'
      clear hk'
      go_wp2_with fail
      go_region
      go_wp2_with fail
      have hrun : Bs.run Bs.tokc s.data.toList = k := by rw [run_all (fun j hj => HT.out j (by rw [HK.out]; simpa using hj)), HK.out]; simp
      refine bodyPost_ret (v := readV (some (Bs.txt 4 (s.data.toList.take k), s.data.toList.drop k))) ?_ rfl ⟨?_, ?_⟩
      · simp [results, Tryz.results17, go_sem, readV, bareV, Bs.txt]
        exact ⟨ba_mk' (by rw [Lib.extract_data]; simp), ba_mk' (Lib.extract_to_end _ _)⟩
      · rw [HQ0.out, ← hrun, take_run, drop_run]
      · exact ((Below.refl _ _).alloc (Nat.le_refl _) _).drew

end Go.Proofs.YtgamebffdcpjaaaGreatDoor
