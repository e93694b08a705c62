/- Walks: the law on bare items: it wakes. -/
import Derived.Test.YtgamebffdcpjaaaGreatDoorW29
namespace Go.Proofs.YtgamebffdcpjaaaGreatDoor
open Go.RowKit
set_option maxRecDepth 100000

theorem wk1 : printV ⟨2, 1500, [], false⟩ = .tuple #[.string ⟨#[49, 46, 53]⟩, .int .i64 0] := by
  rw [printV_yes (t := [49, 46, 53]) (by decide +kernel) (by decide +kernel)]
theorem wk2 : printV ⟨5, 0, [1, 2], false⟩ = .tuple #[.string ⟨#[58, 65, 81, 73, 61, 58]⟩, .int .i64 0] := by
  rw [printV_yes (t := [58, 65, 81, 73, 61, 58]) (by decide +kernel) (by decide +kernel)]
theorem wk3 : printV ⟨0, 0, [], false⟩ = .tuple #[.string ⟨#[]⟩, .int .i64 2] := by
  rw [printV_no (by decide +kernel)]
deriving instance DecidableEq for Bs.Bare
theorem wk4 : Bs.parse [45, 48, 48, 55, 59, 97] = some (⟨1, -7, [], false⟩, [59, 97]) := by decide +kernel
theorem wk5 : Bs.parse [34, 97, 92, 34, 98, 34] = some (⟨3, 0, [97, 34, 98], false⟩, []) := by decide +kernel
theorem wk6 : Bs.parse [49, 46] = none := by decide +kernel
theorem wk7 : Bs.unsix [65, 81, 73, 61] = some [1, 2] := by decide +kernel
theorem wk8 : Bs.unsix [65, 81, 74, 61] = none := by decide +kernel
theorem wk9 : Bs.sixes [97, 98, 99] = [89, 87, 74, 106] := by decide +kernel
theorem wk10 : Bs.token [42, 97, 47, 98, 58, 49] = true := by decide +kernel
theorem wk11 : Bs.token [49, 97] = false := by decide +kernel
theorem wk12 : Bs.right ⟨1, -7, [], false⟩ = true := by decide +kernel
theorem wk13 : Bs.right ⟨4, 0, [], false⟩ = false := by decide +kernel

set_option maxHeartbeats 16000000 in
theorem wakes_calls (w : World) (hE : Env w) : Calls Tryz.prog 13 #[] w fun e w' => e = .returned (.bool true) ∧ Below w.heap.size w w' := by
  have c1 : ∀ w, Env w → Calls Tryz.prog 14 #[bV 2 1500 ⟨#[]⟩ false] w fun e w' => e = .returned (.tuple #[.string ⟨#[49, 46, 53]⟩, .int .i64 0]) ∧ Below w.heap.size w w' := fun w h => wk1 ▸ print_calls 2 1500 ⟨#[]⟩ false w h (by decide)
  have c2 : ∀ w, Env w → Calls Tryz.prog 14 #[bV 5 0 ⟨#[1, 2]⟩ false] w fun e w' => e = .returned (.tuple #[.string ⟨#[58, 65, 81, 73, 61, 58]⟩, .int .i64 0]) ∧ Below w.heap.size w w' := fun w h => wk2 ▸ print_calls 5 0 ⟨#[1, 2]⟩ false w h (by decide)
  have c3 : ∀ w, Env w → Calls Tryz.prog 14 #[bV 0 0 ⟨#[]⟩ false] w fun e w' => e = .returned (.tuple #[.string ⟨#[]⟩, .int .i64 2]) ∧ Below w.heap.size w w' := fun w h => wk3 ▸ print_calls 0 0 ⟨#[]⟩ false w h (by decide)
  have c4 : ∀ w, Env w → Calls Tryz.prog 16 #[.string ⟨#[45, 48, 48, 55, 59, 97]⟩] w fun e w' => e = .returned (.tuple #[.agg #[.int .u8 1, .int .i64 (-7), .string ⟨#[]⟩, .bool false], .string ⟨#[59, 97]⟩, .int .i64 0]) ∧ Below w.heap.size w w' := fun w h => by
    have := parse_calls ⟨#[45, 48, 48, 55, 59, 97]⟩ w h (by decide)
    rw [show (⟨#[45, 48, 48, 55, 59, 97]⟩ : ByteArray).data.toList = [45, 48, 48, 55, 59, 97] from rfl, wk4] at this
    exact this
  have c5 : ∀ w, Env w → Calls Tryz.prog 16 #[.string ⟨#[34, 97, 92, 34, 98, 34]⟩] w fun e w' => e = .returned (.tuple #[.agg #[.int .u8 3, .int .i64 0, .string ⟨#[97, 34, 98]⟩, .bool false], .string ⟨#[]⟩, .int .i64 0]) ∧ Below w.heap.size w w' := fun w h => by
    have := parse_calls ⟨#[34, 97, 92, 34, 98, 34]⟩ w h (by decide)
    rw [show (⟨#[34, 97, 92, 34, 98, 34]⟩ : ByteArray).data.toList = [34, 97, 92, 34, 98, 34] from rfl, wk5] at this
    exact this
  have c6 : ∀ w, Env w → Calls Tryz.prog 16 #[.string ⟨#[49, 46]⟩] w fun e w' => e = .returned (.tuple #[.agg #[.int .u8 0, .int .i64 0, .string ⟨#[]⟩, .bool false], .string ⟨#[]⟩, .int .i64 120]) ∧ Below w.heap.size w w' := fun w h => by
    have := parse_calls ⟨#[49, 46]⟩ w h (by decide)
    rw [show (⟨#[49, 46]⟩ : ByteArray).data.toList = [49, 46] from rfl, wk6] at this
    exact this
  have c7 : ∀ w, Calls Tryz.prog 18 #[.string ⟨#[65, 81, 73, 61]⟩] w fun e w' => e = .returned (.tuple #[.string ⟨#[1, 2]⟩, .bool true]) ∧ Below w.heap.size w w' := fun w => by
    have := unsix_calls ⟨#[65, 81, 73, 61]⟩ w (by decide)
    rw [show (⟨#[65, 81, 73, 61]⟩ : ByteArray).data.toList = [65, 81, 73, 61] from rfl, wk7] at this
    exact this
  have c8 : ∀ w, Calls Tryz.prog 18 #[.string ⟨#[65, 81, 74, 61]⟩] w fun e w' => e = .returned (.tuple #[.string ⟨#[]⟩, .bool false]) ∧ Below w.heap.size w w' := fun w => by
    have := unsix_calls ⟨#[65, 81, 74, 61]⟩ w (by decide)
    rw [show (⟨#[65, 81, 74, 61]⟩ : ByteArray).data.toList = [65, 81, 74, 61] from rfl, wk8] at this
    exact this
  have c9 : ∀ w, Calls Tryz.prog 24 #[.string ⟨#[97, 98, 99]⟩] w fun e w' => e = .returned (.string ⟨#[89, 87, 74, 106]⟩) ∧ Below w.heap.size w w' := fun w => by
    have := sixes_calls ⟨#[97, 98, 99]⟩ w (by decide)
    rw [show (⟨#[97, 98, 99]⟩ : ByteArray).data.toList = [97, 98, 99] from rfl, wk9] at this
    exact this
  have c10 : ∀ w, Calls Tryz.prog 22 #[.string ⟨#[42, 97, 47, 98, 58, 49]⟩] w fun e w' => e = .returned (.bool true) ∧ w = w' := fun w => by
    have := token_calls ⟨#[42, 97, 47, 98, 58, 49]⟩ w (by decide)
    rw [show (⟨#[42, 97, 47, 98, 58, 49]⟩ : ByteArray).data.toList = [42, 97, 47, 98, 58, 49] from rfl, wk10] at this
    exact this
  have c11 : ∀ w, Calls Tryz.prog 22 #[.string ⟨#[49, 97]⟩] w fun e w' => e = .returned (.bool false) ∧ w = w' := fun w => by
    have := token_calls ⟨#[49, 97]⟩ w (by decide)
    rw [show (⟨#[49, 97]⟩ : ByteArray).data.toList = [49, 97] from rfl, wk11] at this
    exact this
  have c12 : ∀ w, Calls Tryz.prog 20 #[bV 1 (-7) ⟨#[]⟩ false] w fun e w' => e = .returned (.bool true) ∧ Below w.heap.size w w' := fun w => by
    have := right_calls 1 (-7) ⟨#[]⟩ false w (by decide)
    rw [show Bs.right ⟨1, -7, (⟨#[]⟩ : ByteArray).data.toList, false⟩ = true from wk12] at this
    exact this
  have c13 : ∀ w, Calls Tryz.prog 20 #[bV 4 0 ⟨#[]⟩ false] w fun e w' => e = .returned (.bool false) ∧ Below w.heap.size w w' := fun w => by
    have := right_calls 4 0 ⟨#[]⟩ false w (by decide)
    rw [show Bs.right ⟨4, 0, (⟨#[]⟩ : ByteArray).data.toList, false⟩ = false from wk13] at this
    exact this
  have hw0 := hE
  have bw0 := Below.refl w.heap.size w
  have hw0 := hE
  have bw0 := Below.refl w.heap.size w
  have hw0 := hE
  have bw0 := Below.refl w.heap.size w
  go_enter Tryz.func13, Tryz.ntmps13
  go_wp2_with fail
  refine (c1 w hw0).mono ?_
  rintro e w1 ⟨rfl, hb1⟩
  have hw1 := hw0.below hb1
  have bw1 := bw0.trans (hb1.mono bw0.size)
  go_wp2_with fail
  refine (c2 w1 hw1).mono ?_
  rintro e w2 ⟨rfl, hb2⟩
  have hw2 := hw1.below hb2
  have bw2 := bw1.trans (hb2.mono bw1.size)
  go_wp2_with fail
  refine (c4 w2 hw2).mono ?_
  rintro e w3 ⟨rfl, hb3⟩
  have hw3 := hw2.below hb3
  have bw3 := bw2.trans (hb3.mono bw2.size)
  go_wp2_with fail
  obtain ⟨v3, ev3⟩ : ∃ v : World, v = w3.alloc (.cells #[.int .u8 1, .int .i64 (-7), .string ⟨#[]⟩, .bool false] 23) := ⟨_, rfl⟩
  rw [← ev3]
  have Av3 : Whole v3 w3.heap.size 23 #[.int .u8 1, .int .i64 (-7), .string ⟨#[]⟩, .bool false] := ev3 ▸ Whole.new w3 23 _
  have hbv3 : Below w3.heap.size w3 v3 := ev3 ▸ (Below.refl _ _).alloc (Nat.le_refl _) _
  have hv3 := hw3.below hbv3
  have bv3 := bw3.trans (hbv3.mono bw3.size)
  clear ev3
  refine (c5 v3 hv3).mono ?_
  rintro e w4 ⟨rfl, hb4⟩
  have hw4 := hv3.below hb4
  have bw4 := bv3.trans (hb4.mono bv3.size)
  have Aw4 := Av3.below hb4 Av3.lt
  go_wp2_with fail
  obtain ⟨v4, ev4⟩ : ∃ v : World, v = w4.alloc (.cells #[.int .u8 3, .int .i64 0, .string ⟨#[97, 34, 98]⟩, .bool false] 23) := ⟨_, rfl⟩
  rw [← ev4]
  have Bv4 : Whole v4 w4.heap.size 23 #[.int .u8 3, .int .i64 0, .string ⟨#[97, 34, 98]⟩, .bool false] := ev4 ▸ Whole.new w4 23 _
  have hbv4 : Below w4.heap.size w4 v4 := ev4 ▸ (Below.refl _ _).alloc (Nat.le_refl _) _
  have hv4 := hw4.below hbv4
  have bv4 := bw4.trans (hbv4.mono bw4.size)
  have Av4 := Aw4.below hbv4 Aw4.lt
  clear ev4
  refine (c6 v4 hv4).mono ?_
  rintro e w5 ⟨rfl, hb5⟩
  have hw5 := hv4.below hb5
  have bw5 := bv4.trans (hb5.mono bv4.size)
  have Aw5 := Av4.below hb5 Av4.lt
  have Bw5 := Bv4.below hb5 Bv4.lt
  go_wp2_with fail
  obtain ⟨v5, ev5⟩ : ∃ v : World, v = w5.alloc (.cells #[.int .u8 0, .int .i64 0, .string ⟨#[]⟩, .bool false] 23) := ⟨_, rfl⟩
  rw [← ev5]
  have Cv5 : Whole v5 w5.heap.size 23 #[.int .u8 0, .int .i64 0, .string ⟨#[]⟩, .bool false] := ev5 ▸ Whole.new w5 23 _
  have hbv5 : Below w5.heap.size w5 v5 := ev5 ▸ (Below.refl _ _).alloc (Nat.le_refl _) _
  have hv5 := hw5.below hbv5
  have bv5 := bw5.trans (hbv5.mono bw5.size)
  have Av5 := Aw5.below hbv5 Aw5.lt
  have Bv5 := Bw5.below hbv5 Bw5.lt
  clear ev5
  refine (c3 v5 hv5).mono ?_
  rintro e w6 ⟨rfl, hb6⟩
  have hw6 := hv5.below hb6
  have bw6 := bv5.trans (hb6.mono bv5.size)
  have Aw6 := Av5.below hb6 Av5.lt
  have Bw6 := Bv5.below hb6 Bv5.lt
  go_wp2_with fail
  refine (c7 w6).mono ?_
  rintro e w7 ⟨rfl, hb7⟩
  have hw7 := hw6.below hb7
  have bw7 := bw6.trans (hb7.mono bw6.size)
  have Aw7 := Aw6.below hb7 Aw6.lt
  have Bw7 := Bw6.below hb7 Bw6.lt
  go_wp2_with fail
  refine (c8 w7).mono ?_
  rintro e w8 ⟨rfl, hb8⟩
  have hw8 := hw7.below hb8
  have bw8 := bw7.trans (hb8.mono bw7.size)
  have Aw8 := Aw7.below hb8 Aw7.lt
  have Bw8 := Bw7.below hb8 Bw7.lt
  have hcA := Aw8.cell
  have hcB := Bw8.cell
  go_wp2_with fail
  refine (c9 w8).mono ?_
  rintro e w9 ⟨rfl, hb9⟩
  have hw9 := hw8.below hb9
  have bw9 := bw8.trans (hb9.mono bw8.size)
  have Aw9 := Aw8.below hb9 Aw8.lt
  have Bw9 := Bw8.below hb9 Bw8.lt
  have hdA := Aw9.cell
  go_wp2_with fail
  refine (c10 w9).mono ?_
  rintro _ _ ⟨rfl, rfl⟩
  go_wp2_with fail
  refine (c11 w9).mono ?_
  rintro _ _ ⟨rfl, rfl⟩
  go_wp2_with fail
  refine (c12 w9).mono ?_
  rintro e w10 ⟨rfl, hb10⟩
  have hw10 := hw9.below hb10
  have bw10 := bw9.trans (hb10.mono bw9.size)
  go_wp2_with fail
  refine (c13 w10).mono ?_
  rintro e w11 ⟨rfl, hb11⟩
  have hw11 := hw10.below hb11
  have bw11 := bw10.trans (hb11.mono bw10.size)
  go_wp2_with fail
  go_ret
  exact ⟨rfl, bw11⟩
end Go.Proofs.YtgamebffdcpjaaaGreatDoor
