/- Walks: the law on bare items. -/
import Derived.Test.YtgamebffdcpjaaaGreatDoorW30
import Derived.Deep.RegionWith
import Derived.Deep.RegionHeld3
namespace Go.Proofs.YtgamebffdcpjaaaGreatDoor
open Go.RowKit
set_option maxRecDepth 100000

theorem printV_form (b : Bs.Bare) : ∃ (p : ByteArray) (e : Int), printV b = .tuple #[.string p, .int .i64 e] := by
  unfold printV
  split
  · exact ⟨_, _, rfl⟩
  · exact ⟨_, _, rfl⟩
theorem readV_form (o : Option (Bs.Bare × Bs.Bytes)) : ∃ (k : Nat) (i : Int) (x : ByteArray) (y : Bool) (r : ByteArray) (e : Int), readV o = .tuple #[.agg #[.int .u8 (k : Int), .int .i64 i, .string x, .bool y], .string r, .int .i64 e] := by
  rcases o with _ | ⟨b, r⟩
  · exact ⟨0, _, _, _, _, _, rfl⟩
  · exact ⟨_, _, _, _, _, _, rfl⟩
theorem unsixV_form (o : Option Bs.Bytes) : ∃ (x : ByteArray) (b : Bool), unsixV o = .tuple #[.string x, .bool b] := by
  rcases o with _ | x
  · exact ⟨_, _, rfl⟩
  · exact ⟨_, _, rfl⟩

set_option maxHeartbeats 16000000 in
theorem bareTells_far (k : Nat) (i : Int) (s : ByteArray) (y : Bool) (t : ByteArray) (w : World) (hE : Env w) (h : 3000 < s.size ∨ 3000 < t.size) :
    Calls Tryz.prog 3 #[bV k i s y, .string t] w fun e w' => e = .returned (.bool true) ∧ Below w.heap.size w w' := by
  have hE1 : Env (w.alloc (.cells #[.int .u8 (k : Int), .int .i64 i, .string s, .bool y] 23)) := hE.below ((Below.refl _ _).alloc (Nat.le_refl _) _)
  have hb1 : Below w.heap.size w (w.alloc (.cells #[.int .u8 (k : Int), .int .i64 i, .string s, .bool y] 23)) := (Below.refl _ _).alloc (Nat.le_refl _) _
  go_enter Tryz.func3, Tryz.ntmps3
  by_cases h1 : 3000 < s.size
  · have z1 : (3000 : Int) < (s.size : Int) := by omega
    go_wp2_with fail
    refine (wakes_calls _ hE1).mono ?_
    rintro e w2 ⟨rfl, hb2⟩
    go_wp2_with fail
    go_ret
    exact ⟨rfl, hb1.trans (hb2.mono hb1.size)⟩
  · have z1 : (s.size : Int) ≤ 3000 := by omega
    have z2 : (3000 : Int) < (t.size : Int) := by omega
    go_wp2_with fail
    refine (wakes_calls _ hE1).mono ?_
    rintro e w2 ⟨rfl, hb2⟩
    go_wp2_with fail
    go_ret
    exact ⟨rfl, hb1.trans (hb2.mono hb1.size)⟩

set_option maxHeartbeats 16000000 in
theorem bareTells_near (k : Nat) (i : Int) (s : ByteArray) (y : Bool) (t : ByteArray) (w : World) (hE : Env w) (h1 : s.size ≤ 3000) (h2 : t.size ≤ 3000) :
    Calls Tryz.prog 3 #[bV k i s y, .string t] w fun e w' => e = .returned (.bool true) ∧ Below w.heap.size w w' := by
  have z1 : (s.size : Int) ≤ 3000 := by omega
  have z2 : (t.size : Int) ≤ 3000 := by omega
  obtain ⟨ps, pe, hP⟩ := printV_form ⟨k, i, s.data.toList, y⟩
  obtain ⟨rk, ri, rx, ry, rr, re, hR⟩ := readV_form (Bs.parse t.data.toList)
  obtain ⟨ux, ub, hU⟩ := unsixV_form (Bs.unsix t.data.toList)
  obtain ⟨rb, hrb⟩ : ∃ b, b = Bs.right ⟨k, i, s.data.toList, y⟩ := ⟨_, rfl⟩
  obtain ⟨tb, htb⟩ : ∃ b, b = Bs.token t.data.toList := ⟨_, rfl⟩
  have c14 := fun w h => print_calls k i s y w h (by omega)
  have c15 := fun w => rprint_calls k i s y w (by omega)
  have c16 := fun w h => parse_calls t w h (by omega)
  have c17 := fun w => rparse_calls t w (by omega)
  have c18 := fun w => unsix_calls t w (by omega)
  have c19 := fun w => runsix_calls t w (by omega)
  have c20 := fun w => right_calls k i s y w (by omega)
  have c21 := fun w => rright_calls k i s y w (by omega)
  have c22 := fun w => token_calls t w (by unfold maxLen; omega)
  have c23 := fun w => rtoken_calls t w (by unfold maxLen; omega)
  have c24 := fun w => sixes_calls t w (by omega)
  have c25 := fun w => rsixes_calls t w (by omega)
  rw [hP] at c14 c15
  rw [hR] at c16 c17
  rw [hU] at c18 c19
  rw [← hrb] at c20 c21
  rw [← htb] at c22 c23
  clear hP hR hU hrb htb
  obtain ⟨w0, ew0⟩ : ∃ v : World, v = w.alloc (.cells #[.int .u8 (k : Int), .int .i64 i, .string s, .bool y] 23) := ⟨_, rfl⟩
  have hX0 : Whole w0 w.heap.size 23 #[.int .u8 (k : Int), .int .i64 i, .string s, .bool y] := ew0 ▸ Whole.new w 23 _
  have b0 : Below w.heap.size w w0 := ew0 ▸ (Below.refl _ _).alloc (Nat.le_refl _) _
  have hE0 := hE.below b0
  have hcX0 := hX0.cell
  go_enter Tryz.func3, Tryz.ntmps3
  go_wp2_with fail
  rw [← ew0]
  clear ew0
  refine (c14 w0 hE0).mono ?_
  rintro e w1 ⟨rfl, hb1⟩
  have hE1 := hE0.below hb1
  have b1 := b0.trans (hb1.mono b0.size)
  have hX1 := hX0.below hb1 hX0.lt
  have hcX1 := hX1.cell
  go_wp2_with fail
  refine (c15 w1).mono ?_
  rintro e w2 ⟨rfl, hb2⟩
  have hE2 := hE1.below hb2
  have b2 := b1.trans (hb2.mono b1.size)
  have hX2 := hX1.below hb2 hX1.lt
  go_wp2_with fail
  refine (c16 w2 hE2).mono ?_
  rintro e w3 ⟨rfl, hb3⟩
  have hE3 := hE2.below hb3
  have b3 := b2.trans (hb3.mono b2.size)
  have hX3 := hX2.below hb3 hX2.lt
  go_wp2_with fail
  obtain ⟨v3, ev3⟩ : ∃ v : World, v = w3.alloc (.cells #[.int .u8 (rk : Int), .int .i64 ri, .string rx, .bool ry] 23) := ⟨_, rfl⟩
  rw [← ev3]
  have hY3 : Whole v3 w3.heap.size 23 #[.int .u8 (rk : Int), .int .i64 ri, .string rx, .bool ry] := ev3 ▸ Whole.new w3 23 _
  have hbv3 : Below w3.heap.size w3 v3 := ev3 ▸ (Below.refl _ _).alloc (Nat.le_refl _) _
  have hEv3 := hE3.below hbv3
  have bv3 := b3.trans (hbv3.mono b3.size)
  have hXv3 := hX3.below hbv3 hX3.lt
  clear ev3
  refine (c17 v3).mono ?_
  rintro e w4 ⟨rfl, hb4⟩
  have hE4 := hEv3.below hb4
  have b4 := bv3.trans (hb4.mono bv3.size)
  have hX4 := hXv3.below hb4 hXv3.lt
  have hY4 := hY3.below hb4 hY3.lt
  go_wp2_with fail
  obtain ⟨v4, ev4⟩ : ∃ v : World, v = w4.alloc (.cells #[.int .u8 (rk : Int), .int .i64 ri, .string rx, .bool ry] 23) := ⟨_, rfl⟩
  rw [← ev4]
  have hZ4 : Whole v4 w4.heap.size 23 #[.int .u8 (rk : Int), .int .i64 ri, .string rx, .bool ry] := ev4 ▸ Whole.new w4 23 _
  have hbv4 : Below w4.heap.size w4 v4 := ev4 ▸ (Below.refl _ _).alloc (Nat.le_refl _) _
  have hEv4 := hE4.below hbv4
  have bv4 := b4.trans (hbv4.mono b4.size)
  have hXv4 := hX4.below hbv4 hX4.lt
  have hYv4 := hY4.below hbv4 hY4.lt
  clear ev4
  refine (c18 v4).mono ?_
  rintro e w5 ⟨rfl, hb5⟩
  have hE5 := hEv4.below hb5
  have b5 := bv4.trans (hb5.mono bv4.size)
  have hX5 := hXv4.below hb5 hXv4.lt
  have hY5 := hYv4.below hb5 hYv4.lt
  have hZ5 := hZ4.below hb5 hZ4.lt
  go_wp2_with fail
  refine (c19 w5).mono ?_
  rintro e w6 ⟨rfl, hb6⟩
  have hE6 := hE5.below hb6
  have b6 := b5.trans (hb6.mono b5.size)
  have hX6 := hX5.below hb6 hX5.lt
  have hY6 := hY5.below hb6 hY5.lt
  have hZ6 := hZ5.below hb6 hZ5.lt
  have hcX := hX6.cell
  have hcY := hY6.cell
  have hcZ := hZ6.cell
  clear hcX0 hcX1 hX0 hX1 hX2 hX3 hX4 hX5 hY3 hY4 hY5 hZ4 hZ5 hE0 hE1 hE2 hE3 hE4 hE5 hb1 hb2 hb3 hb4 hb5 hb6 b0 b1 b2 b3 b4 b5 bv3 bv4 hEv3 hEv4 hXv3 hXv4 hYv4 hbv3 hbv4 c14 c15 c16 c17 c18 c19
  go_wp2_with fail
  have hE6d : Env w6.drew := hE6.below (below_drew (Below.refl _ _))
  go_region_held3 (fun W => W.cell? ⟨w.heap.size, 0, none⟩ = some (.int .u8 (k : Int)) ∧ W.cell? ⟨w.heap.size, 1, none⟩ = some (.int .i64 i) ∧ W.cell? ⟨w.heap.size, 2, none⟩ = some (.string s) ∧ W.cell? ⟨w.heap.size, 3, none⟩ = some (.bool y) ∧ W.cell? ⟨w3.heap.size, 0, none⟩ = some (.int .u8 (rk : Int)) ∧ W.cell? ⟨w3.heap.size, 1, none⟩ = some (.int .i64 ri) ∧ W.cell? ⟨w3.heap.size, 2, none⟩ = some (.string rx) ∧ W.cell? ⟨w3.heap.size, 3, none⟩ = some (.bool ry) ∧ W.cell? ⟨w4.heap.size, 0, none⟩ = some (.int .u8 (rk : Int)) ∧ W.cell? ⟨w4.heap.size, 1, none⟩ = some (.int .i64 ri) ∧ W.cell? ⟨w4.heap.size, 2, none⟩ = some (.string rx) ∧ W.cell? ⟨w4.heap.size, 3, none⟩ = some (.bool ry)) (first | exact ⟨hX6.cell 0, hX6.cell 1, hX6.cell 2, hX6.cell 3, hY6.cell 0, hY6.cell 1, hY6.cell 2, hY6.cell 3, hZ6.cell 0, hZ6.cell 1, hZ6.cell 2, hZ6.cell 3⟩ | exact ⟨hXA.cell 0, hXA.cell 1, hXA.cell 2, hXA.cell 3, hYA.cell 0, hYA.cell 1, hYA.cell 2, hYA.cell 3, hZA.cell 0, hZA.cell 1, hZA.cell 2, hZA.cell 3⟩ | exact ⟨hXB.cell 0, hXB.cell 1, hXB.cell 2, hXB.cell 3, hYB.cell 0, hYB.cell 1, hYB.cell 2, hYB.cell 3, hZB.cell 0, hZB.cell 1, hZB.cell 2, hZB.cell 3⟩ | exact ⟨hXC.cell 0, hXC.cell 1, hXC.cell 2, hXC.cell 3, hYC.cell 0, hYC.cell 1, hYC.cell 2, hYC.cell 3, hZC.cell 0, hZC.cell 1, hZC.cell 2, hZC.cell 3⟩ | exact ⟨hXD.cell 0, hXD.cell 1, hXD.cell 2, hXD.cell 3, hYD.cell 0, hYD.cell 1, hYD.cell 2, hYD.cell 3, hZD.cell 0, hZD.cell 1, hZD.cell 2, hZD.cell 3⟩ | exact ⟨hXF.cell 0, hXF.cell 1, hXF.cell 2, hXF.cell 3, hYF.cell 0, hYF.cell 1, hYF.cell 2, hYF.cell 3, hZF.cell 0, hZF.cell 1, hZF.cell 2, hZF.cell 3⟩)
    (first
    | (go_at_call 20; refine (c20 _).mono ?_; rintro e wA ⟨rfl, hbA⟩; have hXA := (hX6.drew).below hbA hX6.lt; have hYA := (hY6.drew).below hbA hY6.lt; have hZA := (hZ6.drew).below hbA hZ6.lt; have hEA := hE6d.below hbA; have bA := (below_drew b6).trans (hbA.mono b6.size))
    | (go_at_call 21; refine (c21 _).mono ?_; rintro e wB ⟨rfl, hbB⟩; have hXB := hXA.below hbB hXA.lt; have hYB := hYA.below hbB hYA.lt; have hZB := hZA.below hbB hZA.lt; have hEB := hEA.below hbB; have bB := bA.trans (hbB.mono bA.size))
    | (go_at_call 22; refine (c22 _).mono ?_; rintro _ _ ⟨rfl, rfl⟩)
    | (go_at_call 23; refine (c23 _).mono ?_; rintro _ _ ⟨rfl, rfl⟩)
    | (go_at_call 24; refine (c24 _).mono ?_; rintro e wC ⟨rfl, hbC⟩; have hXC := hXB.below hbC hXB.lt; have hYC := hYB.below hbC hYB.lt; have hZC := hZB.below hbC hZB.lt; have hEC := hEB.below hbC; have bC := bB.trans (hbC.mono bB.size))
    | (go_at_call 25; refine (c25 _).mono ?_; rintro e wD ⟨rfl, hbD⟩; have hXD := hXC.below hbD hXC.lt; have hYD := hYC.below hbD hYC.lt; have hZD := hZC.below hbD hZC.lt; have hED := hEC.below hbD; have bD := bC.trans (hbD.mono bC.size))
    | (go_at_call 13; refine (wakes_calls _ hED).mono ?_; rintro e wF ⟨rfl, hbF⟩; have hXF := hXD.below hbF hXD.lt; have hYF := hYD.below hbF hYD.lt; have hZF := hZD.below hbF hZD.lt; have bF := bD.trans (hbF.mono bD.size)))
  all_goals (go_wp2_with fail; go_ret; exact ⟨rfl, bF⟩)

theorem bareTells_calls (k : Nat) (i : Int) (s : ByteArray) (y : Bool) (t : ByteArray) (w : World) (hE : Env w) :
    Calls Tryz.prog 3 #[bV k i s y, .string t] w fun e w' => e = .returned (.bool true) ∧ Below w.heap.size w w' := by
  by_cases h1 : s.size ≤ 3000
  · by_cases h2 : t.size ≤ 3000
    · exact bareTells_near k i s y t w hE h1 h2
    · exact bareTells_far k i s y t w hE (.inr (by omega))
  · exact bareTells_far k i s y t w hE (.inl (by omega))
end Go.Proofs.YtgamebffdcpjaaaGreatDoor
