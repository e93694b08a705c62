/- Walks: a text of thousandths, as package bare tells it. -/
import Derived.Test.YtgamebffdcpjaaaGreatDoorW21
import Derived.Test.YtgamebffdcpjaaaGreatDoorA3
namespace Go.Proofs.YtgamebffdcpjaaaGreatDoor
open Go.RowKit
set_option maxRecDepth 100000

theorem itoa_calls (i : Int) (w : World) (hE : Env w) (h0 : -9223372036854775808 ≤ i) (h1 : i ≤ 9223372036854775807) :
    Calls Tryz.prog 64 #[.int .i64 i] w fun e w' => e = .returned (S (Lib.itoa i)) ∧ Below w.heap.size w w' := by
  refine (Tryz.strconv_Itoa i h0 h1 w hE.pow).mono ?_
  rintro e w' ⟨rfl, k, os, rfl⟩
  exact ⟨rfl, Lib.below_grow _ _ (Nat.le_refl _) _ _⟩

theorem itoa4_calls (n : Nat) (w : World) (hE : Env w) (c1 c2 c3 : UInt8) (h1 : c1 = UInt8.ofNat (48 + n % 1000 / 100 % 10)) (h2 : c2 = UInt8.ofNat (48 + n % 1000 / 10 % 10)) (h3 : c3 = UInt8.ofNat (48 + n % 1000 % 10)) :
    Calls Tryz.prog 64 #[.int .i64 (1000 + (n : Int) % 1000)] w fun e w' => e = .returned (.string ⟨#[49, c1, c2, c3]⟩) ∧ Below w.heap.size w w' := by
  refine (itoa_calls (1000 + (n : Int) % 1000) w hE (by omega) (by omega)).mono ?_
  rintro e w' ⟨rfl, hb⟩
  refine ⟨?_, hb⟩
  have e1 : Lib.itoa (1000 + (n : Int) % 1000) = [49, c1, c2, c3] := by
    have := Bs.itoa_1000 (n := n % 1000) (by omega)
    rw [show (((n % 1000 : Nat)) : Int) = (n : Int) % 1000 from by omega, ← h1, ← h2, ← h3] at this
    have hd : (Lib.itoa (1000 + (n : Int) % 1000)).take 1 = [49] := by
      unfold Lib.itoa
      rw [if_neg (by omega), show (1000 + (n : Int) % 1000).toNat = 1000 + n % 1000 from by omega]
      rw [Bs.dec_hi (by omega), Bs.dec_hi (by omega), Bs.dec_hi (by omega), Lib.decDigits_one (by omega)]
      rw [show (1000 + n % 1000) / 10 / 10 / 10 = 1 from by omega]
      rfl
    rw [← List.take_append_drop 1 (Lib.itoa (1000 + (n : Int) % 1000)), hd, this]; rfl
  rw [e1]

theorem trim48_calls (s : ByteArray) (t : Bs.Bytes) (w : World) (hs : s.size ≤ 1000) (ht : Bs.trimR 48 s.data.toList = t) :
    Calls Tryz.prog 80 #[.string s, .string ⟨#[48]⟩] w fun e w' => e = .returned (S t) ∧ w = w' := by
  refine (Tryz.strings_TrimRight_one s 48 (by decide) w (by omega)).mono ?_
  rintro e w' ⟨rfl, rfl⟩
  rw [Bs.trimR_eq, ht]
  exact ⟨rfl, rfl⟩

set_option maxHeartbeats 4000000 in
theorem decimal_neg_calls (n : Nat) (h0 : 0 < n) (hn : n ≤ 999999999999999) (w : World) (hE : Env w) :
    Calls Tryz.prog 65 #[.int .i64 (-(n : Int))] w fun e w' => e = .returned (S (Bs.decimal (-(n : Int)))) ∧ Below w.heap.size w w' := by
  obtain ⟨c1, h1⟩ : ∃ c, c = UInt8.ofNat (48 + n % 1000 / 100 % 10) := ⟨_, rfl⟩
  obtain ⟨c2, h2⟩ : ∃ c, c = UInt8.ofNat (48 + n % 1000 / 10 % 10) := ⟨_, rfl⟩
  obtain ⟨c3, h3⟩ : ∃ c, c = UInt8.ofNat (48 + n % 1000 % 10) := ⟨_, rfl⟩
  have i4 := fun w hE => itoa4_calls n w hE c1 c2 c3 h1 h2 h3
  have e1 : Bs.decimal (-(n : Int)) = _ := (decimal_neg h0)
  rw [part3 h1 h2 h3] at e1
  obtain ⟨T0, hT⟩ : ∃ T0 : Bs.Bytes, T0 = [45] ++ Bs.rdg (n / 1000) 1 [] ++ [46] ++ (if c3 ≠ 48 then [c1, c2, c3] else if c2 ≠ 48 then [c1, c2] else [c1]) := ⟨_, rfl⟩
  rw [← hT] at e1
  rw [e1]
  have HT := Lib.hid hT
  clear hT h1 h2 h3 e1
  go_enter Tryz.func65, Tryz.ntmps65
  by_cases z3 : c3 = 48
  · subst z3
    by_cases z2 : c2 = 48
    · subst z2
      by_cases z1 : c1 = 48
      · subst z1
        go_wp2_with fail
        refine (i4 _ hE).mono ?_
        rintro e w1 ⟨rfl, hb1⟩
        have hE1 := hE.below hb1
        go_wp2_with fail
        refine (trim48_calls ⟨#[48, 48, 48]⟩ [] _ (show 3 ≤ 1000 by omega) (by rfl)).mono ?_
        rintro e w2 ⟨rfl, rfl⟩
        simp only [S]
        go_wp2_with fail
        refine (itoa_calls _ _ hE1 (by omega) (by omega)).mono ?_
        rintro e w3 ⟨rfl, hb3⟩
        rw [show ((n : Int) / 1000) = ((n / 1000 : Nat) : Int) from by omega, itoa_pos]
        have hl := rdg_len (n / 1000) (by omega) 0
        simp only [S]
        go_wp2_with fail
        go_ret
        refine ⟨?_, hb1.trans (hb3.mono hb1.size)⟩
        simp [HT.out, S]
        apply ba_ext
        simp [ba_append, *]
      · have Z1 := Lib.hid z1
        clear z1
        go_wp2_with fail
        refine (i4 _ hE).mono ?_
        rintro e w1 ⟨rfl, hb1⟩
        have hE1 := hE.below hb1
        go_wp2_with fail
        refine (trim48_calls ⟨#[c1, 48, 48]⟩ [c1] _ (show 3 ≤ 1000 by omega) (by simp [Bs.trimR, Z1.out])).mono ?_
        rintro e w2 ⟨rfl, rfl⟩
        simp only [S]
        go_wp2_with fail
        refine (itoa_calls _ _ hE1 (by omega) (by omega)).mono ?_
        rintro e w3 ⟨rfl, hb3⟩
        rw [show ((n : Int) / 1000) = ((n / 1000 : Nat) : Int) from by omega, itoa_pos]
        have hl := rdg_len (n / 1000) (by omega) 0
        simp only [S]
        go_wp2_with fail
        go_ret
        refine ⟨?_, hb1.trans (hb3.mono hb1.size)⟩
        simp [HT.out, S]
        apply ba_ext
        simp [ba_append, *]
    · have Z2 := Lib.hid z2
      clear z2
      go_wp2_with fail
      refine (i4 _ hE).mono ?_
      rintro e w1 ⟨rfl, hb1⟩
      have hE1 := hE.below hb1
      go_wp2_with fail
      refine (trim48_calls ⟨#[c1, c2, 48]⟩ [c1, c2] _ (show 3 ≤ 1000 by omega) (by simp [Bs.trimR, Z2.out])).mono ?_
      rintro e w2 ⟨rfl, rfl⟩
      simp only [S]
      go_wp2_with fail
      refine (itoa_calls _ _ hE1 (by omega) (by omega)).mono ?_
      rintro e w3 ⟨rfl, hb3⟩
      rw [show ((n : Int) / 1000) = ((n / 1000 : Nat) : Int) from by omega, itoa_pos]
      have hl := rdg_len (n / 1000) (by omega) 0
      simp only [S]
      go_wp2_with fail
      go_ret
      refine ⟨?_, hb1.trans (hb3.mono hb1.size)⟩
      simp [HT.out, S]
      apply ba_ext
      simp [ba_append, Z2.out, *]
  · have Z3 := Lib.hid z3
    clear z3
    go_wp2_with fail
    refine (i4 _ hE).mono ?_
    rintro e w1 ⟨rfl, hb1⟩
    have hE1 := hE.below hb1
    go_wp2_with fail
    refine (trim48_calls ⟨#[c1, c2, c3]⟩ [c1, c2, c3] _ (show 3 ≤ 1000 by omega) (by simp [Bs.trimR, Z3.out])).mono ?_
    rintro e w2 ⟨rfl, rfl⟩
    simp only [S]
    go_wp2_with fail
    refine (itoa_calls _ _ hE1 (by omega) (by omega)).mono ?_
    rintro e w3 ⟨rfl, hb3⟩
    rw [show ((n : Int) / 1000) = ((n / 1000 : Nat) : Int) from by omega, itoa_pos]
    have hl := rdg_len (n / 1000) (by omega) 0
    simp only [S]
    go_wp2_with fail
    go_ret
    refine ⟨?_, hb1.trans (hb3.mono hb1.size)⟩
    simp [HT.out, S]
    apply ba_ext
    simp [ba_append, Z3.out, *]

set_option maxHeartbeats 4000000 in
theorem decimal_pos_calls (n : Nat) (hn : n ≤ 999999999999999) (w : World) (hE : Env w) :
    Calls Tryz.prog 65 #[.int .i64 ((n : Int))] w fun e w' => e = .returned (S (Bs.decimal ((n : Int)))) ∧ Below w.heap.size w w' := by
  obtain ⟨c1, h1⟩ : ∃ c, c = UInt8.ofNat (48 + n % 1000 / 100 % 10) := ⟨_, rfl⟩
  obtain ⟨c2, h2⟩ : ∃ c, c = UInt8.ofNat (48 + n % 1000 / 10 % 10) := ⟨_, rfl⟩
  obtain ⟨c3, h3⟩ : ∃ c, c = UInt8.ofNat (48 + n % 1000 % 10) := ⟨_, rfl⟩
  have i4 := fun w hE => itoa4_calls n w hE c1 c2 c3 h1 h2 h3
  have e1 : Bs.decimal ((n : Int)) = _ := (decimal_pos n)
  rw [part3 h1 h2 h3] at e1
  obtain ⟨T0, hT⟩ : ∃ T0 : Bs.Bytes, T0 = Bs.rdg (n / 1000) 1 [] ++ [46] ++ (if c3 ≠ 48 then [c1, c2, c3] else if c2 ≠ 48 then [c1, c2] else [c1]) := ⟨_, rfl⟩
  rw [← hT] at e1
  rw [e1]
  have HT := Lib.hid hT
  clear hT h1 h2 h3 e1
  go_enter Tryz.func65, Tryz.ntmps65
  by_cases z3 : c3 = 48
  · subst z3
    by_cases z2 : c2 = 48
    · subst z2
      by_cases z1 : c1 = 48
      · subst z1
        go_wp2_with fail
        refine (i4 _ hE).mono ?_
        rintro e w1 ⟨rfl, hb1⟩
        have hE1 := hE.below hb1
        go_wp2_with fail
        refine (trim48_calls ⟨#[48, 48, 48]⟩ [] _ (show 3 ≤ 1000 by omega) (by rfl)).mono ?_
        rintro e w2 ⟨rfl, rfl⟩
        simp only [S]
        go_wp2_with fail
        refine (itoa_calls _ _ hE1 (by omega) (by omega)).mono ?_
        rintro e w3 ⟨rfl, hb3⟩
        rw [show ((n : Int) / 1000) = ((n / 1000 : Nat) : Int) from by omega, itoa_pos]
        have hl := rdg_len (n / 1000) (by omega) 0
        simp only [S]
        go_wp2_with fail
        go_ret
        refine ⟨?_, hb1.trans (hb3.mono hb1.size)⟩
        simp [HT.out, S]
        apply ba_ext
        simp [ba_append, *]
      · have Z1 := Lib.hid z1
        clear z1
        go_wp2_with fail
        refine (i4 _ hE).mono ?_
        rintro e w1 ⟨rfl, hb1⟩
        have hE1 := hE.below hb1
        go_wp2_with fail
        refine (trim48_calls ⟨#[c1, 48, 48]⟩ [c1] _ (show 3 ≤ 1000 by omega) (by simp [Bs.trimR, Z1.out])).mono ?_
        rintro e w2 ⟨rfl, rfl⟩
        simp only [S]
        go_wp2_with fail
        refine (itoa_calls _ _ hE1 (by omega) (by omega)).mono ?_
        rintro e w3 ⟨rfl, hb3⟩
        rw [show ((n : Int) / 1000) = ((n / 1000 : Nat) : Int) from by omega, itoa_pos]
        have hl := rdg_len (n / 1000) (by omega) 0
        simp only [S]
        go_wp2_with fail
        go_ret
        refine ⟨?_, hb1.trans (hb3.mono hb1.size)⟩
        simp [HT.out, S]
        apply ba_ext
        simp [ba_append, *]
    · have Z2 := Lib.hid z2
      clear z2
      go_wp2_with fail
      refine (i4 _ hE).mono ?_
      rintro e w1 ⟨rfl, hb1⟩
      have hE1 := hE.below hb1
      go_wp2_with fail
      refine (trim48_calls ⟨#[c1, c2, 48]⟩ [c1, c2] _ (show 3 ≤ 1000 by omega) (by simp [Bs.trimR, Z2.out])).mono ?_
      rintro e w2 ⟨rfl, rfl⟩
      simp only [S]
      go_wp2_with fail
      refine (itoa_calls _ _ hE1 (by omega) (by omega)).mono ?_
      rintro e w3 ⟨rfl, hb3⟩
      rw [show ((n : Int) / 1000) = ((n / 1000 : Nat) : Int) from by omega, itoa_pos]
      have hl := rdg_len (n / 1000) (by omega) 0
      simp only [S]
      go_wp2_with fail
      go_ret
      refine ⟨?_, hb1.trans (hb3.mono hb1.size)⟩
      simp [HT.out, S]
      apply ba_ext
      simp [ba_append, Z2.out, *]
  · have Z3 := Lib.hid z3
    clear z3
    go_wp2_with fail
    refine (i4 _ hE).mono ?_
    rintro e w1 ⟨rfl, hb1⟩
    have hE1 := hE.below hb1
    go_wp2_with fail
    refine (trim48_calls ⟨#[c1, c2, c3]⟩ [c1, c2, c3] _ (show 3 ≤ 1000 by omega) (by simp [Bs.trimR, Z3.out])).mono ?_
    rintro e w2 ⟨rfl, rfl⟩
    simp only [S]
    go_wp2_with fail
    refine (itoa_calls _ _ hE1 (by omega) (by omega)).mono ?_
    rintro e w3 ⟨rfl, hb3⟩
    rw [show ((n : Int) / 1000) = ((n / 1000 : Nat) : Int) from by omega, itoa_pos]
    have hl := rdg_len (n / 1000) (by omega) 0
    simp only [S]
    go_wp2_with fail
    go_ret
    refine ⟨?_, hb1.trans (hb3.mono hb1.size)⟩
    simp [HT.out, S]
    apply ba_ext
    simp [ba_append, Z3.out, *]

theorem decimal_calls (i : Int) (hi : -999999999999999 ≤ i ∧ i ≤ 999999999999999) (w : World) (hE : Env w) :
    Calls Tryz.prog 65 #[.int .i64 i] w fun e w' => e = .returned (S (Bs.decimal i)) ∧ Below w.heap.size w w' := by
  by_cases h : i < 0
  · obtain ⟨n, hn⟩ : ∃ n : Nat, n = i.natAbs := ⟨_, rfl⟩
    obtain rfl : i = -(n : Int) := by omega
    exact decimal_neg_calls n (by omega) (by omega) w hE
  · obtain ⟨n, rfl⟩ : ∃ n : Nat, i = (n : Int) := ⟨i.toNat, by omega⟩
    exact decimal_pos_calls n (by omega) w hE
end Go.Proofs.YtgamebffdcpjaaaGreatDoor
