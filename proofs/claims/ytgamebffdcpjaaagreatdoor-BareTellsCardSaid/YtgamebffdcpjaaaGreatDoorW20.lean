/- Walks: an item's text, as the reference tells it (thousandths). -/
import Derived.Test.YtgamebffdcpjaaaGreatDoorW19
import Derived.LoopN
namespace Go.Proofs.YtgamebffdcpjaaaGreatDoor
open Go.RowKit
set_option maxRecDepth 100000

theorem digits3_calls (n : Nat) (w : World) (c1 c2 c3 : UInt8) (h1 : c1 = UInt8.ofNat (48 + n % 1000 / 100 % 10)) (h2 : c2 = UInt8.ofNat (48 + n % 1000 / 10 % 10)) (h3 : c3 = UInt8.ofNat (48 + n % 1000 % 10)) :
    Calls Tryz.prog 67 #[.int .i64 ((n : Int) % 1000), .int .i64 3] w fun e w' => e = .returned (.string ⟨#[c1, c2, c3]⟩) ∧ Below w.heap.size w w' := by
  have := digits_calls (n % 1000) 3 w (by omega) (by omega)
  rw [Bs.rdg_three (by omega), ← h1, ← h2, ← h3] at this
  exact this
theorem digits1_calls (n : Nat) (w : World) (hn : n ≤ 4000000000000000000) :
    Calls Tryz.prog 67 #[.int .i64 ((n : Int) / 1000), .int .i64 1] w fun e w' => e = .returned (S (Bs.rdg (n / 1000) 1 [])) ∧ Below w.heap.size w w' :=
  digits_calls (n / 1000) 1 w (by omega) (by omega)


theorem part3 {n : Nat} {c1 c2 c3 : UInt8} (h1 : c1 = UInt8.ofNat (48 + n % 1000 / 100 % 10)) (h2 : c2 = UInt8.ofNat (48 + n % 1000 / 10 % 10)) (h3 : c3 = UInt8.ofNat (48 + n % 1000 % 10)) :
    Bs.part (n % 1000) = if c3 ≠ 48 then [c1, c2, c3] else if c2 ≠ 48 then [c1, c2] else [c1] := by
  rw [Bs.part_eq]
  have e3 := Bs.ofNat48 (a := n % 1000 % 10) (by omega)
  have e2 := Bs.ofNat48 (a := n % 1000 / 10 % 10) (by omega)
  rw [← h3] at e3
  rw [← h2] at e2
  rw [← h1, ← h2, ← h3]
  by_cases z3 : c3 = 48
  · by_cases z2 : c2 = 48
    · rw [if_neg (by simpa using e3.1 z3), if_neg (by simpa using e2.1 z2), if_neg (by simpa using z3), if_neg (by simpa using z2)]
    · rw [if_neg (by simpa using e3.1 z3), if_pos (fun h => z2 (e2.2 h)), if_neg (by simpa using z3), if_pos z2]
  · rw [if_pos (fun h => z3 (e3.2 h)), if_pos z3]
theorem decimal_pos (n : Nat) : Bs.decimal (n : Int) = Bs.rdg (n / 1000) 1 [] ++ [46] ++ Bs.part (n % 1000) := by
  rw [Bs.rdg_one]; unfold Bs.decimal; rw [if_neg (by omega)]; simp
theorem decimal_neg {n : Nat} (h : 0 < n) : Bs.decimal (-(n : Int)) = [45] ++ Bs.rdg (n / 1000) 1 [] ++ [46] ++ Bs.part (n % 1000) := by
  rw [Bs.rdg_one]; unfold Bs.decimal; rw [if_pos (by omega)]; simp

set_option maxHeartbeats 4000000 in
theorem rprint_dec_neg (n : Nat) (h0 : 0 < n) (hn : n ≤ 999999999999999) (s : ByteArray) (y : Bool) (w : World) (hs : s.size ≤ 140737488351232) (hr : Bs.right ⟨2, -(n : Int), s.data.toList, y⟩ = true) :
    Calls Tryz.prog 15 #[bV 2 (-(n : Int)) s y] w fun e w' => e = .returned (printV ⟨2, -(n : Int), s.data.toList, y⟩) ∧ Below w.heap.size w w' := by
  have e0 : Bs.print ⟨2, -(n : Int), s.data.toList, y⟩ = Bs.decimal (-(n : Int)) := rfl
  obtain ⟨c1, h1⟩ : ∃ c, c = UInt8.ofNat (48 + n % 1000 / 100 % 10) := ⟨_, rfl⟩
  obtain ⟨c2, h2⟩ : ∃ c, c = UInt8.ofNat (48 + n % 1000 / 10 % 10) := ⟨_, rfl⟩
  obtain ⟨c3, h3⟩ : ∃ c, c = UInt8.ofNat (48 + n % 1000 % 10) := ⟨_, rfl⟩
  have d3 := fun w => digits3_calls n w c1 c2 c3 h1 h2 h3
  have e1 : Bs.print ⟨2, -(n : Int), s.data.toList, y⟩ = _ := (decimal_neg h0)
  rw [part3 h1 h2 h3] at e1
  have b2 := c2.toNat_lt
  have b3 := c3.toNat_lt
  clear h1 h2 h3 e0
  obtain ⟨T0, hT⟩ : ∃ T0 : Bs.Bytes, T0 = [45] ++ Bs.rdg (n / 1000) 1 [] ++ [46] ++ (if c3 ≠ 48 then [c1, c2, c3] else if c2 ≠ 48 then [c1, c2] else [c1]) := ⟨_, rfl⟩
  rw [← hT] at e1
  rw [printV_yes hr e1]
  have HT := Lib.hid hT
  clear hT
  go_enter Tryz.func15, Tryz.ntmps15
  go_wp2_with fail
  refine (rright_calls 2 (-(n : Int)) s y _ hs).mono ?_
  rintro e w1 ⟨rfl, hb1⟩
  rw [hr]
  have hlt0 : w.heap.size < (w.alloc (.cells #[.int .u8 2, .int .i64 (-(n : Int)), .string s, .bool y] 23)).heap.size := box_lt w _
  have hwh : Whole w1 w.heap.size 23 #[.int .u8 2, .int .i64 (-(n : Int)), .string s, .bool y] := (Whole.new w 23 _).below hb1 hlt0
  have hb2 : Below w.heap.size w w1 := ((Below.refl w.heap.size w).alloc (Nat.le_refl _) _).trans (hb1.mono (Nat.le_of_lt hlt0))
  have hc1 := hwh.cell
  have hf1 := hwh.frozen
  clear hb1
  clear hr e1
  go_wp2_with fail
  go_region
  go_wp2_with fail
  refine (d3 _).mono ?_
  rintro e w2 ⟨rfl, hb3⟩
  by_cases z3 : c3 = 48
  · subst z3
    by_cases z2 : c2 = 48
    · subst z2
      go_wp2_with fail
      refine wp_loop_rounds 3 ?_
      iterate 3 (rw [rounds_succ]; go_wp2_with fail)
      refine (digits1_calls n _ (by omega)).mono ?_
      rintro e w3 ⟨rfl, hb4⟩
      have hl := rdg_len (n / 1000) (by omega) 0
      go_wp2_with fail
      refine bodyPost_ret (v := .tuple #[S T0, .int .i64 0]) ?_ rfl ⟨rfl, ((below_drew hb2).trans (hb3.mono hb2.size)).trans (hb4.mono (Nat.le_trans hb2.size hb3.size))⟩
      simp [results, Tryz.results15, go_sem, HT.out]
      apply ba_ext
      simp [ba_append, *]
    · have y2 : (((((⟨#[c1, c2, 48]⟩ : ByteArray).extract 0 2)[1]'(Nat.lt_succ_self 1)).toNat : Int) == 48) = false := eqB_no (d := 48) z2
      go_wp2_with fail
      refine wp_loop_rounds 2 ?_
      iterate 2 (rw [rounds_succ]; go_wp2_with fail)
      refine (digits1_calls n _ (by omega)).mono ?_
      rintro e w3 ⟨rfl, hb4⟩
      have hl := rdg_len (n / 1000) (by omega) 0
      go_wp2_with fail
      refine bodyPost_ret (v := .tuple #[S T0, .int .i64 0]) ?_ rfl ⟨rfl, ((below_drew hb2).trans (hb3.mono hb2.size)).trans (hb4.mono (Nat.le_trans hb2.size hb3.size))⟩
      simp [results, Tryz.results15, go_sem, HT.out]
      apply ba_ext
      simp [ba_append, *]
  · have y3 : ((((⟨#[c1, c2, c3]⟩ : ByteArray)[2]'(Nat.lt_succ_self 2)).toNat : Int) == 48) = false := eqB_no (d := 48) z3
    go_wp2_with fail
    refine wp_loop_rounds 1 ?_
    iterate 1 (rw [rounds_succ]; go_wp2_with fail)
    refine (digits1_calls n _ (by omega)).mono ?_
    rintro e w3 ⟨rfl, hb4⟩
    have hl := rdg_len (n / 1000) (by omega) 0
    go_wp2_with fail
    refine bodyPost_ret (v := .tuple #[S T0, .int .i64 0]) ?_ rfl ⟨rfl, ((below_drew hb2).trans (hb3.mono hb2.size)).trans (hb4.mono (Nat.le_trans hb2.size hb3.size))⟩
    simp [results, Tryz.results15, go_sem, HT.out]
    apply ba_ext
    simp [ba_append, *]

set_option maxHeartbeats 4000000 in
theorem rprint_dec_pos (n : Nat) (hn : n ≤ 999999999999999) (s : ByteArray) (y : Bool) (w : World) (hs : s.size ≤ 140737488351232) (hr : Bs.right ⟨2, (n : Int), s.data.toList, y⟩ = true) :
    Calls Tryz.prog 15 #[bV 2 ((n : Int)) s y] w fun e w' => e = .returned (printV ⟨2, (n : Int), s.data.toList, y⟩) ∧ Below w.heap.size w w' := by
  have e0 : Bs.print ⟨2, (n : Int), s.data.toList, y⟩ = Bs.decimal ((n : Int)) := rfl
  obtain ⟨c1, h1⟩ : ∃ c, c = UInt8.ofNat (48 + n % 1000 / 100 % 10) := ⟨_, rfl⟩
  obtain ⟨c2, h2⟩ : ∃ c, c = UInt8.ofNat (48 + n % 1000 / 10 % 10) := ⟨_, rfl⟩
  obtain ⟨c3, h3⟩ : ∃ c, c = UInt8.ofNat (48 + n % 1000 % 10) := ⟨_, rfl⟩
  have d3 := fun w => digits3_calls n w c1 c2 c3 h1 h2 h3
  have e1 : Bs.print ⟨2, (n : Int), s.data.toList, y⟩ = _ := (decimal_pos n)
  rw [part3 h1 h2 h3] at e1
  have b2 := c2.toNat_lt
  have b3 := c3.toNat_lt
  clear h1 h2 h3 e0
  obtain ⟨T0, hT⟩ : ∃ T0 : Bs.Bytes, T0 = Bs.rdg (n / 1000) 1 [] ++ [46] ++ (if c3 ≠ 48 then [c1, c2, c3] else if c2 ≠ 48 then [c1, c2] else [c1]) := ⟨_, rfl⟩
  rw [← hT] at e1
  rw [printV_yes hr e1]
  have HT := Lib.hid hT
  clear hT
  go_enter Tryz.func15, Tryz.ntmps15
  go_wp2_with fail
  refine (rright_calls 2 ((n : Int)) s y _ hs).mono ?_
  rintro e w1 ⟨rfl, hb1⟩
  rw [hr]
  have hlt0 : w.heap.size < (w.alloc (.cells #[.int .u8 2, .int .i64 ((n : Int)), .string s, .bool y] 23)).heap.size := box_lt w _
  have hwh : Whole w1 w.heap.size 23 #[.int .u8 2, .int .i64 ((n : Int)), .string s, .bool y] := (Whole.new w 23 _).below hb1 hlt0
  have hb2 : Below w.heap.size w w1 := ((Below.refl w.heap.size w).alloc (Nat.le_refl _) _).trans (hb1.mono (Nat.le_of_lt hlt0))
  have hc1 := hwh.cell
  have hf1 := hwh.frozen
  clear hb1
  clear hr e1
  go_wp2_with fail
  go_region
  go_wp2_with fail
  refine (d3 _).mono ?_
  rintro e w2 ⟨rfl, hb3⟩
  by_cases z3 : c3 = 48
  · subst z3
    by_cases z2 : c2 = 48
    · subst z2
      go_wp2_with fail
      refine wp_loop_rounds 3 ?_
      iterate 3 (rw [rounds_succ]; go_wp2_with fail)
      refine (digits1_calls n _ (by omega)).mono ?_
      rintro e w3 ⟨rfl, hb4⟩
      have hl := rdg_len (n / 1000) (by omega) 0
      go_wp2_with fail
      refine bodyPost_ret (v := .tuple #[S T0, .int .i64 0]) ?_ rfl ⟨rfl, ((below_drew hb2).trans (hb3.mono hb2.size)).trans (hb4.mono (Nat.le_trans hb2.size hb3.size))⟩
      simp [results, Tryz.results15, go_sem, HT.out]
      apply ba_ext
      simp [ba_append, *]
    · have y2 : (((((⟨#[c1, c2, 48]⟩ : ByteArray).extract 0 2)[1]'(Nat.lt_succ_self 1)).toNat : Int) == 48) = false := eqB_no (d := 48) z2
      go_wp2_with fail
      refine wp_loop_rounds 2 ?_
      iterate 2 (rw [rounds_succ]; go_wp2_with fail)
      refine (digits1_calls n _ (by omega)).mono ?_
      rintro e w3 ⟨rfl, hb4⟩
      have hl := rdg_len (n / 1000) (by omega) 0
      go_wp2_with fail
      refine bodyPost_ret (v := .tuple #[S T0, .int .i64 0]) ?_ rfl ⟨rfl, ((below_drew hb2).trans (hb3.mono hb2.size)).trans (hb4.mono (Nat.le_trans hb2.size hb3.size))⟩
      simp [results, Tryz.results15, go_sem, HT.out]
      apply ba_ext
      simp [ba_append, *]
  · have y3 : ((((⟨#[c1, c2, c3]⟩ : ByteArray)[2]'(Nat.lt_succ_self 2)).toNat : Int) == 48) = false := eqB_no (d := 48) z3
    go_wp2_with fail
    refine wp_loop_rounds 1 ?_
    iterate 1 (rw [rounds_succ]; go_wp2_with fail)
    refine (digits1_calls n _ (by omega)).mono ?_
    rintro e w3 ⟨rfl, hb4⟩
    have hl := rdg_len (n / 1000) (by omega) 0
    go_wp2_with fail
    refine bodyPost_ret (v := .tuple #[S T0, .int .i64 0]) ?_ rfl ⟨rfl, ((below_drew hb2).trans (hb3.mono hb2.size)).trans (hb4.mono (Nat.le_trans hb2.size hb3.size))⟩
    simp [results, Tryz.results15, go_sem, HT.out]
    apply ba_ext
    simp [ba_append, *]
end Go.Proofs.YtgamebffdcpjaaaGreatDoor
