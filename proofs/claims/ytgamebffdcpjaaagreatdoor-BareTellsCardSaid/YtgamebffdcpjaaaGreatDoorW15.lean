/- Walks: any bare item that a text begins with, as the reference reads it: sixes, answers, all. -/
import Derived.Test.YtgamebffdcpjaaaGreatDoorW14
namespace Go.Proofs.YtgamebffdcpjaaaGreatDoor
open Go.RowKit
set_option maxRecDepth 100000

theorem cutV_some {t : Bs.Bytes} {n : Nat} (hn : n < t.length) (h : ∀ j, j < n → (t.getD j 0 != 58) = true) (h2 : t.getD n 0 = 58) : cutV t = (t.take n, t.drop (n + 1), true) := by
  have hr : Bs.run (· != 58) t = n := run_at hn h (by rw [h2]; rfl)
  unfold cutV Bs.cutAt
  rw [← drop_run, ← take_run, hr, List.drop_eq_getElem_cons hn]
theorem cutV_none {t : Bs.Bytes} (h : ∀ j, j < t.length → (t.getD j 0 != 58) = true) : cutV t = (t, [], false) := by
  have hr : Bs.run (· != 58) t = t.length := run_all h
  unfold cutV Bs.cutAt
  rw [← drop_run, hr, List.drop_length]
theorem getD_drop1 (l : Bs.Bytes) (j : Nat) : (l.drop 1).getD j 0 = l.getD (j + 1) 0 := by
  cases l <;> simp

set_option maxHeartbeats 4000000 in
theorem rparse_packed (s : ByteArray) (w : World) (hs : s.size ≤ 4000000000) (h0 : 0 < s.size) (h58 : s[0] = 58) :
    Calls Tryz.prog 17 #[.string s] w fun e w' => e = .returned (readV (Bs.parse s.data.toList)) ∧ Below w.heap.size w w' := by
  have hb0 := s[0].toNat_lt
  have hn0 : ((s.size : Int) == 0) = false := size_ne s h0
  have hl : s.data.toList = s[0] :: s.data.toList.drop 1 := by have := drop_cons s 0 h0; simpa using this
  have HL := Lib.hid hl
  clear hl
  have HD := Lib.hid h58
  have hd' : Bs.digit s[0] = false := by rw [h58]; decide +kernel
  have hL' : Bs.letter s[0] = false := by rw [h58]; decide +kernel
  have y45 : ((s[0].toNat : Int) == 45) = false := eqB_no (d := 45) (by rw [h58]; decide)
  have y42 : ((s[0].toNat : Int) == 42) = false := eqB_no (d := 42) (by rw [h58]; decide)
  have y34 : ((s[0].toNat : Int) == 34) = false := eqB_no (d := 34) (by rw [h58]; decide)
  have y58 : ((s[0].toNat : Int) == 58) = true := eqB_yes (d := 58) h58
  have y63 : ((s[0].toNat : Int) == 63) = false := eqB_no (d := 63) (by rw [h58]; decide)
  have hq0 : Bs.parse s.data.toList = Bs.packed (s.data.toList.drop 1) := by rw [← parse_packed, ← HD.out, ← HL.out]
  rw [packed_eq] at hq0
  have HQ0 := Lib.hid hq0
  clear hq0 h58
  go_enter Tryz.func17, Tryz.ntmps17
  go_wp2_with (first | (go_at_call 76; refine (rdigit_calls _ _).mono ?_; rintro e w' ⟨rfl, rfl⟩) | (go_at_call 79; refine (rletter_calls _ _).mono ?_; rintro e w' ⟨rfl, rfl⟩) | fail)
  go_loop [7] (fun i => ∃ k : Nat, 1 ≤ k ∧ k ≤ s.size ∧ i = .int .i64 (k : Int) ∧ ∀ j, j < k - 1 → ((s.data.toList.drop 1).getD j 0 != 58) = true) (fun i => s.size - (intOf i).toNat)
  case atStart => exact ⟨1, by omega, h0, rfl, fun j hj => by omega⟩
  case round =>
    obtain ⟨k, hk1, hk, rfl, ht⟩ := hrel
    have HT := Lib.hid ht
    clear ht
    by_cases hlt : k < s.size
    · have hlt' : (k : Int) < (s.size : Int) := by omega
      have HG := Lib.hid (ba_get s k hlt)
      have hb8 := s[k].toNat_lt
      have hgk : (s.data.toList.drop 1).getD (k - 1) 0 = s[k] := by rw [getD_drop1, show k - 1 + 1 = k by omega, ba_get s k hlt]
      have HGK := Lib.hid hgk
      clear hgk
      by_cases hx : s[k] = 58
      · have z : ((s[k].toNat : Int) != 58) = false := neB_no (d := 58) hx
        have HX := Lib.hid hx
        clear hx
        obtain ⟨p, hp⟩ : ∃ p, p = s.extract 1 k := ⟨_, rfl⟩
        have hpl : p.data.toList = (s.data.toList.drop 1).take (k - 1) := by rw [hp, Lib.extract_data]
        have hps : p.size ≤ 4000000000 := by
          have e1 : p.data.toList.length = p.size := by simp
          rw [← e1, hpl, List.length_take]; simp; omega
        have HP := Lib.hid hp
        have hcut := cutV_some (t := s.data.toList.drop 1) (n := k - 1) (by simp; omega) HT.out (by rw [HGK.out]; exact HX.out)
        rw [← hpl, show k - 1 + 1 = k by omega, List.drop_drop] at hcut
        have HC := Lib.hid hcut
        clear hp hpl hcut
        go_wp2_with fail
        rw [← HP.out]
        refine (runsix_calls p _ (by omega)).mono ?_
        rintro e w1 ⟨rfl, hb⟩
        have hc1 : ∀ o, w1.cell? ⟨w.heap.size, o, none⟩ = _ := fun o => hb.cell (p := ⟨w.heap.size, o, none⟩) (by simp)
        have hf1 : ∀ o, w1.frozen? ⟨w.heap.size, o, none⟩ = _ := fun o => hb.frozen (p := ⟨w.heap.size, o, none⟩) (by simp)
        have hb2 : Below w.heap.size w w1 := ((Below.refl _ _).alloc (Nat.le_refl _) _).trans (hb.mono (by simp))
        have hb3 : w.heap.size < w1.heap.size := by have := hb.size; simp at this; omega
        clear hb
        cases hx : Bs.unsix p.data.toList with
        | none =>
          have HXN := Lib.hid hx
          clear hx
          simp only [unsixV]
          go_wp2_with fail
          refine (none_calls _).mono ?_
          rintro e w2 ⟨rfl, hbb⟩
          have hc2 : ∀ o, w2.cell? ⟨w.heap.size, o, none⟩ = _ := fun o => hbb.cell (p := ⟨w.heap.size, o, none⟩) hb3
          have hf2 : ∀ o, w2.frozen? ⟨w.heap.size, o, none⟩ = _ := fun o => hbb.frozen (p := ⟨w.heap.size, o, none⟩) hb3
          have hb4 : Below w.heap.size w w2 := hb2.trans (hbb.mono hb2.size)
          have hb5 : w.heap.size < w2.heap.size := Nat.lt_of_lt_of_le hb3 hbb.size
          clear hbb
          simp only [readV]
          go_wp2_with fail
          refine bodyPost_ret (v := readV none) (by simp [results, Tryz.results17, go_sem, hc1, hc2, readV]) rfl ⟨?_, ?_⟩
          · rw [HQ0.out, HC.out]; simp [HXN.out]
          · repeat' (with_reducible first | exact hb4 | exact Nat.le_refl _ | refine below_set ?_ ?_ | refine below_drew ?_)
        | some x =>
          have HXN := Lib.hid hx
          clear hx
          simp only [unsixV]
          go_wp2_with fail
          go_region
          go_wp2_with fail
          refine bodyPost_ret (v := readV (some (Bs.txt 5 x, s.data.toList.drop (k + 1)))) ?_ rfl ⟨?_, ?_⟩
          · simp [results, Tryz.results17, go_sem, hc1, readV, bareV, Bs.txt]
            exact ba_mk' (Lib.extract_to_end _ _)
          · rw [HQ0.out, HC.out]
            simp [HXN.out, Nat.add_comm]
          · repeat' (with_reducible first | exact hb2 | exact Nat.le_refl _ | refine below_set ?_ ?_ | refine below_drew ?_)
      · have z : ((s[k].toNat : Int) != 58) = true := neB_yes (d := 58) hx
        have HX := Lib.hid hx
        clear hx
        go_wp2_with fail
        refine ⟨⟨k + 1, by omega, by omega, by go_num, ?_⟩, by simp [intOf]; omega⟩
        intro j hj
        by_cases e : j = k - 1
        · rw [e, HGK.out]; simpa using HX.out
        · exact HT.out j (by omega)
    · have hlt' : (s.size : Int) ≤ (k : Int) := by omega
      obtain ⟨p, hp⟩ : ∃ p, p = s.extract 1 k := ⟨_, rfl⟩
      have hpl : p.data.toList = (s.data.toList.drop 1).take (k - 1) := by rw [hp, Lib.extract_data]
      have hps : p.size ≤ 4000000000 := by
        have e1 : p.data.toList.length = p.size := by simp
        rw [← e1, hpl, List.length_take]; simp; omega
      have HP := Lib.hid hp
      have hcut := cutV_none (t := s.data.toList.drop 1) (fun j hj => HT.out j (by simp at hj; omega))
      have HC := Lib.hid hcut
      clear hp hpl hcut
      go_wp2_with fail
      rw [← HP.out]
      refine (runsix_calls p _ (by omega)).mono ?_
      rintro e w1 ⟨rfl, hb⟩
      have hc1 : ∀ o, w1.cell? ⟨w.heap.size, o, none⟩ = _ := fun o => hb.cell (p := ⟨w.heap.size, o, none⟩) (by simp)
      have hf1 : ∀ o, w1.frozen? ⟨w.heap.size, o, none⟩ = _ := fun o => hb.frozen (p := ⟨w.heap.size, o, none⟩) (by simp)
      have hb2 : Below w.heap.size w w1 := ((Below.refl _ _).alloc (Nat.le_refl _) _).trans (hb.mono (by simp))
      have hb3 : w.heap.size < w1.heap.size := by have := hb.size; simp at this; omega
      clear hb
      cases hx : Bs.unsix p.data.toList
      all_goals simp only [unsixV]
      all_goals clear hx
      all_goals go_wp2_with fail
      all_goals refine (none_calls _).mono ?_
      all_goals rintro e w2 ⟨rfl, hbb⟩
      all_goals have hc2 : ∀ o, w2.cell? ⟨w.heap.size, o, none⟩ = _ := fun o => hbb.cell (p := ⟨w.heap.size, o, none⟩) hb3
      all_goals have hf2 : ∀ o, w2.frozen? ⟨w.heap.size, o, none⟩ = _ := fun o => hbb.frozen (p := ⟨w.heap.size, o, none⟩) hb3
      all_goals have hb4 : Below w.heap.size w w2 := hb2.trans (hbb.mono hb2.size)
      all_goals have hb5 : w.heap.size < w2.heap.size := Nat.lt_of_lt_of_le hb3 hbb.size
      all_goals clear hbb
      all_goals simp only [readV]
      all_goals go_wp2_with fail
      all_goals refine bodyPost_ret (v := readV none) (by simp [results, Tryz.results17, go_sem, hc1, hc2, readV]) rfl ⟨?_, ?_⟩
      all_goals first
        | (rw [HQ0.out, HC.out]; simp; done)
        | (repeat' (with_reducible first | exact hb4 | exact Nat.le_refl _ | refine below_set ?_ ?_ | refine below_drew ?_))

set_option maxHeartbeats 4000000 in
theorem rparse_answer (s : ByteArray) (w : World) (hs : s.size ≤ 4000000000) (h0 : 0 < s.size) (h63 : s[0] = 63) :
    Calls Tryz.prog 17 #[.string s] w fun e w' => e = .returned (readV (Bs.parse s.data.toList)) ∧ Below w.heap.size w w' := by
  have hb0 := s[0].toNat_lt
  have hn0 : ((s.size : Int) == 0) = false := size_ne s h0
  have hl : s.data.toList = s[0] :: s.data.toList.drop 1 := by have := drop_cons s 0 h0; simpa using this
  have HL := Lib.hid hl
  clear hl
  have HD := Lib.hid h63
  have hd' : Bs.digit s[0] = false := by rw [h63]; decide +kernel
  have hL' : Bs.letter s[0] = false := by rw [h63]; decide +kernel
  have y45 : ((s[0].toNat : Int) == 45) = false := eqB_no (d := 45) (by rw [h63]; decide)
  have y42 : ((s[0].toNat : Int) == 42) = false := eqB_no (d := 42) (by rw [h63]; decide)
  have y34 : ((s[0].toNat : Int) == 34) = false := eqB_no (d := 34) (by rw [h63]; decide)
  have y58 : ((s[0].toNat : Int) == 58) = false := eqB_no (d := 58) (by rw [h63]; decide)
  have y63 : ((s[0].toNat : Int) == 63) = true := eqB_yes (d := 63) h63
  have hq0 : Bs.parse s.data.toList = Bs.answer (s.data.toList.drop 1) := by rw [← parse_answer, ← HD.out, ← HL.out]
  have HQ0 := Lib.hid hq0
  clear hq0 h63
  by_cases h2 : 1 < s.size
  · have h2' : (1 : Int) < (s.size : Int) := by omega
    have hb1 := s[1].toNat_lt
    have hdc := drop_cons s 1 h2
    have HDC := Lib.hid hdc
    clear hdc
    by_cases h48 : s[1] = 48
    · have z : ((s[1].toNat : Int) == 48) = true := eqB_yes (d := 48) h48
      have z2 : ((s[1].toNat : Int) == 49) = false := eqB_no (d := 49) (by rw [h48]; decide)
      have H48 := Lib.hid h48
      clear h48
      go_enter Tryz.func17, Tryz.ntmps17
      go_wp2_with (first | (go_at_call 76; refine (rdigit_calls _ _).mono ?_; rintro e w' ⟨rfl, rfl⟩) | (go_at_call 79; refine (rletter_calls _ _).mono ?_; rintro e w' ⟨rfl, rfl⟩) | fail)
      go_region
      go_wp2_with fail
      refine bodyPost_ret (v := readV (some ({ kind := 6, int := 0, text := [], yes := false }, s.data.toList.drop 2))) ?_ rfl ⟨?_, ?_⟩
      · simp [results, Tryz.results17, go_sem, readV, bareV]
        exact ba_mk' (Lib.extract_to_end _ _)
      · rw [HQ0.out, HDC.out, H48.out, Bs.answer, if_pos (.inl rfl)]; rfl
      · exact ((Below.refl _ _).alloc (Nat.le_refl _) _).drew
    · have z : ((s[1].toNat : Int) == 48) = false := eqB_no (d := 48) h48
      by_cases h49 : s[1] = 49
      · have z2 : ((s[1].toNat : Int) == 49) = true := eqB_yes (d := 49) h49
        have H49 := Lib.hid h49
        clear h49
        go_enter Tryz.func17, Tryz.ntmps17
        go_wp2_with (first | (go_at_call 76; refine (rdigit_calls _ _).mono ?_; rintro e w' ⟨rfl, rfl⟩) | (go_at_call 79; refine (rletter_calls _ _).mono ?_; rintro e w' ⟨rfl, rfl⟩) | fail)
        go_region
        go_wp2_with fail
        refine bodyPost_ret (v := readV (some ({ kind := 6, int := 0, text := [], yes := true }, s.data.toList.drop 2))) ?_ rfl ⟨?_, ?_⟩
        · simp [results, Tryz.results17, go_sem, readV, bareV]
          exact ba_mk' (Lib.extract_to_end _ _)
        · rw [HQ0.out, HDC.out, H49.out, Bs.answer, if_pos (.inr rfl)]; rfl
        · exact ((Below.refl _ _).alloc (Nat.le_refl _) _).drew
      · have z2 : ((s[1].toNat : Int) == 49) = false := eqB_no (d := 49) h49
        go_enter Tryz.func17, Tryz.ntmps17
        go_wp2_with (first | (go_at_call 76; refine (rdigit_calls _ _).mono ?_; rintro e w' ⟨rfl, rfl⟩) | (go_at_call 79; refine (rletter_calls _ _).mono ?_; rintro e w' ⟨rfl, rfl⟩) | fail)
        refine (none_calls _).mono ?_
        rintro e w1 ⟨rfl, hb⟩
        have hc1 : ∀ o, w1.cell? ⟨w.heap.size, o, none⟩ = _ := fun o => hb.cell (p := ⟨w.heap.size, o, none⟩) (by simp)
        have hf1 : ∀ o, w1.frozen? ⟨w.heap.size, o, none⟩ = _ := fun o => hb.frozen (p := ⟨w.heap.size, o, none⟩) (by simp)
        have hb2 : Below w.heap.size w w1 := ((Below.refl _ _).alloc (Nat.le_refl _) _).trans (hb.mono (by simp))
        have hb3 : w.heap.size < w1.heap.size := by have := hb.size; simp at this; omega
        clear hb
        have hq : Bs.parse s.data.toList = none := by rw [HQ0.out, HDC.out, Bs.answer, if_neg (by simp [h48, h49])]
        have HQ := Lib.hid hq
        clear hq
        simp only [readV]
        go_wp2_with fail
        exact bodyPost_ret (v := readV none) (by simp [results, Tryz.results17, go_sem, hc1, readV]) rfl ⟨by rw [HQ.out], by (repeat' (with_reducible first | exact hb2 | exact Nat.le_refl _ | refine below_set ?_ ?_ | refine below_drew ?_))⟩
  · have h2' : (s.size : Int) ≤ 1 := by omega
    have HDE := Lib.hid (drop_end s 1 (by omega))
    go_enter Tryz.func17, Tryz.ntmps17
    go_wp2_with (first | (go_at_call 76; refine (rdigit_calls _ _).mono ?_; rintro e w' ⟨rfl, rfl⟩) | (go_at_call 79; refine (rletter_calls _ _).mono ?_; rintro e w' ⟨rfl, rfl⟩) | fail)
    refine (none_calls _).mono ?_
    rintro e w1 ⟨rfl, hb⟩
    have hc1 : ∀ o, w1.cell? ⟨w.heap.size, o, none⟩ = _ := fun o => hb.cell (p := ⟨w.heap.size, o, none⟩) (by simp)
    have hf1 : ∀ o, w1.frozen? ⟨w.heap.size, o, none⟩ = _ := fun o => hb.frozen (p := ⟨w.heap.size, o, none⟩) (by simp)
    have hb2 : Below w.heap.size w w1 := ((Below.refl _ _).alloc (Nat.le_refl _) _).trans (hb.mono (by simp))
    have hb3 : w.heap.size < w1.heap.size := by have := hb.size; simp at this; omega
    clear hb
    have hq : Bs.parse s.data.toList = none := by rw [HQ0.out, HDE.out]; rfl
    have HQ := Lib.hid hq
    clear hq
    simp only [readV]
    go_wp2_with fail
    exact bodyPost_ret (v := readV none) (by simp [results, Tryz.results17, go_sem, hc1, readV]) rfl ⟨by rw [HQ.out], by (repeat' (with_reducible first | exact hb2 | exact Nat.le_refl _ | refine below_set ?_ ?_ | refine below_drew ?_))⟩

set_option maxHeartbeats 4000000 in
theorem rparse_other (s : ByteArray) (w : World) (hs : s.size ≤ 4000000000) (h0 : 0 < s.size) (hd : ¬ Bs.digit s[0] = true) (h45 : s[0] ≠ 45) (hh : ¬ Bs.headc s[0] = true) (h34 : s[0] ≠ 34) (h58 : s[0] ≠ 58) (h63 : s[0] ≠ 63) :
    Calls Tryz.prog 17 #[.string s] w fun e w' => e = .returned (readV (Bs.parse s.data.toList)) ∧ Below w.heap.size w w' := by
  have hb0 := s[0].toNat_lt
  have hn0 : ((s.size : Int) == 0) = false := size_ne s h0
  have hl : s.data.toList = s[0] :: s.data.toList.drop 1 := by have := drop_cons s 0 h0; simpa using this
  have HL := Lib.hid hl
  clear hl
  have hd' : Bs.digit s[0] = false := by simpa using hd
  have hh' : Bs.letter s[0] = false ∧ s[0] ≠ 42 := by simpa [Bs.headc] using hh
  have hL' := hh'.1
  have h42 := hh'.2
  clear hh'
  have y45 : ((s[0].toNat : Int) == 45) = false := eqB_no (d := 45) h45
  have y42 : ((s[0].toNat : Int) == 42) = false := eqB_no (d := 42) h42
  have y34 : ((s[0].toNat : Int) == 34) = false := eqB_no (d := 34) h34
  have y58 : ((s[0].toNat : Int) == 58) = false := eqB_no (d := 58) h58
  have y63 : ((s[0].toNat : Int) == 63) = false := eqB_no (d := 63) h63
  have hq0 : Bs.parse s.data.toList = none := by rw [HL.out]; exact parse_other hd h45 hh h34 h58 h63
  have HQ0 := Lib.hid hq0
  clear hq0
  go_enter Tryz.func17, Tryz.ntmps17
  go_wp2_with (first | (go_at_call 76; refine (rdigit_calls _ _).mono ?_; rintro e w' ⟨rfl, rfl⟩) | (go_at_call 79; refine (rletter_calls _ _).mono ?_; rintro e w' ⟨rfl, rfl⟩) | fail)
  refine (none_calls _).mono ?_
  rintro e w1 ⟨rfl, hb⟩
  have hc1 : ∀ o, w1.cell? ⟨w.heap.size, o, none⟩ = _ := fun o => hb.cell (p := ⟨w.heap.size, o, none⟩) (by simp)
  have hf1 : ∀ o, w1.frozen? ⟨w.heap.size, o, none⟩ = _ := fun o => hb.frozen (p := ⟨w.heap.size, o, none⟩) (by simp)
  have hb2 : Below w.heap.size w w1 := ((Below.refl _ _).alloc (Nat.le_refl _) _).trans (hb.mono (by simp))
  have hb3 : w.heap.size < w1.heap.size := by have := hb.size; simp at this; omega
  clear hb
  have hq : Bs.parse s.data.toList = none := HQ0.out
  have HQ := Lib.hid hq
  clear hq
  simp only [readV]
  go_wp2_with fail
  exact bodyPost_ret (v := readV none) (by simp [results, Tryz.results17, go_sem, hc1, readV]) rfl ⟨by rw [HQ.out], by (repeat' (with_reducible first | exact hb2 | exact Nat.le_refl _ | refine below_set ?_ ?_ | refine below_drew ?_))⟩

theorem rparse_calls (s : ByteArray) (w : World) (hs : s.size ≤ 4000000000) :
    Calls Tryz.prog 17 #[.string s] w fun e w' => e = .returned (readV (Bs.parse s.data.toList)) ∧ Below w.heap.size w w' := by
  by_cases h0 : 0 < s.size
  · by_cases hd : Bs.digit s[0] = true
    · exact rparse_num s w hs h0 hd
    by_cases h45 : s[0] = 45
    · exact rparse_neg s w hs h0 h45
    by_cases h34 : s[0] = 34
    · exact rparse_quoted s w hs h0 h34
    by_cases hL : Bs.letter s[0] = true
    · exact rparse_letter s w hs h0 hd h45 h34 hL
    by_cases h42 : s[0] = 42
    · exact rparse_star s w hs h0 h42
    by_cases h58 : s[0] = 58
    · exact rparse_packed s w hs h0 h58
    by_cases h63 : s[0] = 63
    · exact rparse_answer s w hs h0 h63
    exact rparse_other s w hs h0 hd h45 (by simp [Bs.headc, hL, h42]) h34 h58 h63
  · have hz : s.data.toList.length = s.size := by simp
    have hl : s.data.toList = [] := List.eq_nil_of_length_eq_zero (by omega)
    have hn0 : ((s.size : Int) == 0) = true := by rw [beq_iff_eq]; omega
    have HL := Lib.hid hl
    clear hl hz
    go_enter Tryz.func17, Tryz.ntmps17
    go_wp2_with (first | (go_at_call 76; refine (rdigit_calls _ _).mono ?_; rintro e w' ⟨rfl, rfl⟩) | (go_at_call 79; refine (rletter_calls _ _).mono ?_; rintro e w' ⟨rfl, rfl⟩) | fail)
    refine (none_calls _).mono ?_
    rintro e w1 ⟨rfl, hb⟩
    have hc1 : ∀ o, w1.cell? ⟨w.heap.size, o, none⟩ = _ := fun o => hb.cell (p := ⟨w.heap.size, o, none⟩) (by simp)
    have hf1 : ∀ o, w1.frozen? ⟨w.heap.size, o, none⟩ = _ := fun o => hb.frozen (p := ⟨w.heap.size, o, none⟩) (by simp)
    have hb2 : Below w.heap.size w w1 := ((Below.refl _ _).alloc (Nat.le_refl _) _).trans (hb.mono (by simp))
    have hb3 : w.heap.size < w1.heap.size := by have := hb.size; simp at this; omega
    clear hb
    have hq : Bs.parse s.data.toList = none := by rw [HL.out]; rfl
    have HQ := Lib.hid hq
    clear hq
    simp only [readV]
    go_wp2_with fail
    exact bodyPost_ret (v := readV none) (by simp [results, Tryz.results17, go_sem, hc1, readV]) rfl ⟨by rw [HQ.out], by (repeat' (with_reducible first | exact hb2 | exact Nat.le_refl _ | refine below_set ?_ ?_ | refine below_drew ?_))⟩

end Go.Proofs.YtgamebffdcpjaaaGreatDoor
