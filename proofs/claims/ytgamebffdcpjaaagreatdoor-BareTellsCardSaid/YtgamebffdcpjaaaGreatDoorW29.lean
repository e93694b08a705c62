/- Walks: an item's text, as package bare tells it. -/
import Derived.Test.YtgamebffdcpjaaaGreatDoorW28
import Derived.Test.YtgamebffdcpjaaaGreatDoorA6
namespace Go.Proofs.YtgamebffdcpjaaaGreatDoor
open Go.RowKit
set_option maxRecDepth 100000

theorem replace_calls (s : ByteArray) (c : UInt8) (a b : UInt8) (w : World) (hE : Env w) (hs : s.size ≤ 2000000000) :
    Calls Tryz.prog 66 #[.string s, .string ⟨#[c]⟩, .string ⟨#[a, b]⟩] w fun e w' => e = .returned (S (Bs.sub1 c [a, b] s.data.toList)) ∧ Below w.heap.size w w' := by
  obtain ⟨m, hm⟩ := hE.most
  have hl : Lib.countB s ⟨#[c]⟩ * (⟨#[a, b]⟩ : ByteArray).size ≤ (s.size + 1) * 2 := by
    have h1 : Lib.countB s ⟨#[c]⟩ ≤ s.size + 1 := by
      have := Lib.count_le s.data.toList [c]
      simpa [Lib.countB] using this
    exact Nat.mul_le_mul h1 (Nat.le_refl 2)
  refine (Tryz.strings_ReplaceAll s ⟨#[c]⟩ ⟨#[a, b]⟩ m w (by omega) hm (Nat.le_refl 1) (by omega)).mono ?_
  rintro e w' ⟨rfl, hb⟩
  refine ⟨?_, hb⟩
  rw [show Lib.replaceAll s.data.toList (⟨#[c]⟩ : ByteArray).data.toList (⟨#[a, b]⟩ : ByteArray).data.toList = Lib.replaceAll s.data.toList [c] [a, b] from rfl, Bs.replaceAll_one c [a, b] (by simp)]

set_option maxHeartbeats 4000000 in
theorem print_no (k : Nat) (i : Int) (s : ByteArray) (y : Bool) (w : World) (hE : Env w) (hs : s.size ≤ 1000000000) (hr : Bs.right ⟨k, i, s.data.toList, y⟩ = false) :
    Calls Tryz.prog 14 #[bV k i s y] w fun e w' => e = .returned (printV ⟨k, i, s.data.toList, y⟩) ∧ Below w.heap.size w w' := by
  rw [printV_no hr]
  go_enter Tryz.func14, Tryz.ntmps14
  go_wp2_with fail
  refine (right_calls k i s y _ (by omega)).mono ?_
  rintro e w1 ⟨rfl, hb1⟩
  rw [hr]
  have hlt0 : w.heap.size < (w.alloc (.cells #[.int .u8 (k : Int), .int .i64 i, .string s, .bool y] 23)).heap.size := box_lt w _
  have hwh : Whole w1 w.heap.size 23 #[.int .u8 (k : Int), .int .i64 i, .string s, .bool y] := (Whole.new w 23 _).below hb1 hlt0
  have hb2 : Below w.heap.size w w1 := ((Below.refl w.heap.size w).alloc (Nat.le_refl _) _).trans (hb1.mono (Nat.le_of_lt hlt0))
  have hc1 := hwh.cell
  have hf1 := hwh.frozen
  have hE1 : Env w1 := hE.below hb2
  clear hb1
  go_wp2_with fail
  exact bodyPost_ret (v := .tuple #[S [], .int .i64 2]) (by simp [results, Tryz.results14, go_sem]) rfl ⟨rfl, hb2⟩

set_option maxHeartbeats 4000000 in
theorem print_int (i : Int) (s : ByteArray) (y : Bool) (w : World) (hE : Env w) (hs : s.size ≤ 1000000000) (hr : Bs.right ⟨1, i, s.data.toList, y⟩ = true) :
    Calls Tryz.prog 14 #[bV 1 i s y] w fun e w' => e = .returned (printV ⟨1, i, s.data.toList, y⟩) ∧ Below w.heap.size w w' := by
  obtain ⟨g1, g2⟩ := num_bound (.inl rfl) hr
  rw [printV_yes hr (t := Lib.itoa i) rfl]
  go_enter Tryz.func14, Tryz.ntmps14
  go_wp2_with fail
  refine (right_calls 1 i s y _ (by omega)).mono ?_
  rintro e w1 ⟨rfl, hb1⟩
  rw [hr]
  have hlt0 : w.heap.size < (w.alloc (.cells #[.int .u8 1, .int .i64 i, .string s, .bool y] 23)).heap.size := box_lt w _
  have hwh : Whole w1 w.heap.size 23 #[.int .u8 1, .int .i64 i, .string s, .bool y] := (Whole.new w 23 _).below hb1 hlt0
  have hb2 : Below w.heap.size w w1 := ((Below.refl w.heap.size w).alloc (Nat.le_refl _) _).trans (hb1.mono (Nat.le_of_lt hlt0))
  have hc1 := hwh.cell
  have hf1 := hwh.frozen
  have hE1 : Env w1 := hE.below hb2
  clear hb1
  go_wp2_with fail
  refine (itoa_calls i w1 hE1 (by omega) (by omega)).mono ?_
  rintro e w2 ⟨rfl, hb3⟩
  go_wp2_with fail
  exact bodyPost_ret (v := .tuple #[S (Lib.itoa i), .int .i64 0]) (by simp [results, Tryz.results14, go_sem]) rfl ⟨rfl, hb2.trans (hb3.mono hb2.size)⟩

set_option maxHeartbeats 4000000 in
theorem print_dec (i : Int) (s : ByteArray) (y : Bool) (w : World) (hE : Env w) (hs : s.size ≤ 1000000000) (hr : Bs.right ⟨2, i, s.data.toList, y⟩ = true) :
    Calls Tryz.prog 14 #[bV 2 i s y] w fun e w' => e = .returned (printV ⟨2, i, s.data.toList, y⟩) ∧ Below w.heap.size w w' := by
  obtain ⟨g1, g2⟩ := num_bound (.inr rfl) hr
  rw [printV_yes hr (t := Bs.decimal i) rfl]
  go_enter Tryz.func14, Tryz.ntmps14
  go_wp2_with fail
  refine (right_calls 2 i s y _ (by omega)).mono ?_
  rintro e w1 ⟨rfl, hb1⟩
  rw [hr]
  have hlt0 : w.heap.size < (w.alloc (.cells #[.int .u8 2, .int .i64 i, .string s, .bool y] 23)).heap.size := box_lt w _
  have hwh : Whole w1 w.heap.size 23 #[.int .u8 2, .int .i64 i, .string s, .bool y] := (Whole.new w 23 _).below hb1 hlt0
  have hb2 : Below w.heap.size w w1 := ((Below.refl w.heap.size w).alloc (Nat.le_refl _) _).trans (hb1.mono (Nat.le_of_lt hlt0))
  have hc1 := hwh.cell
  have hf1 := hwh.frozen
  have hE1 : Env w1 := hE.below hb2
  clear hb1
  go_wp2_with fail
  refine (decimal_calls i ⟨g1, g2⟩ w1 hE1).mono ?_
  rintro e w2 ⟨rfl, hb3⟩
  go_wp2_with fail
  exact bodyPost_ret (v := .tuple #[S (Bs.decimal i), .int .i64 0]) (by simp [results, Tryz.results14, go_sem]) rfl ⟨rfl, hb2.trans (hb3.mono hb2.size)⟩

set_option maxHeartbeats 4000000 in
theorem print_tok (i : Int) (s : ByteArray) (y : Bool) (w : World) (hE : Env w) (hs : s.size ≤ 1000000000) (hr : Bs.right ⟨4, i, s.data.toList, y⟩ = true) :
    Calls Tryz.prog 14 #[bV 4 i s y] w fun e w' => e = .returned (printV ⟨4, i, s.data.toList, y⟩) ∧ Below w.heap.size w w' := by
  rw [printV_yes hr (t := s.data.toList) rfl]
  go_enter Tryz.func14, Tryz.ntmps14
  go_wp2_with fail
  refine (right_calls 4 i s y _ (by omega)).mono ?_
  rintro e w1 ⟨rfl, hb1⟩
  rw [hr]
  have hlt0 : w.heap.size < (w.alloc (.cells #[.int .u8 4, .int .i64 i, .string s, .bool y] 23)).heap.size := box_lt w _
  have hwh : Whole w1 w.heap.size 23 #[.int .u8 4, .int .i64 i, .string s, .bool y] := (Whole.new w 23 _).below hb1 hlt0
  have hb2 : Below w.heap.size w w1 := ((Below.refl w.heap.size w).alloc (Nat.le_refl _) _).trans (hb1.mono (Nat.le_of_lt hlt0))
  have hc1 := hwh.cell
  have hf1 := hwh.frozen
  have hE1 : Env w1 := hE.below hb2
  clear hb1
  go_wp2_with fail
  exact bodyPost_ret (v := .tuple #[S s.data.toList, .int .i64 0]) (by simp [results, Tryz.results14, go_sem]) rfl ⟨rfl, hb2⟩

set_option maxHeartbeats 4000000 in
theorem print_bytes (i : Int) (s : ByteArray) (y : Bool) (w : World) (hE : Env w) (hs : s.size ≤ 1000000000) (hr : Bs.right ⟨5, i, s.data.toList, y⟩ = true) :
    Calls Tryz.prog 14 #[bV 5 i s y] w fun e w' => e = .returned (printV ⟨5, i, s.data.toList, y⟩) ∧ Below w.heap.size w w' := by
  rw [printV_yes hr (t := [58] ++ Bs.sixes s.data.toList ++ [58]) rfl]
  go_enter Tryz.func14, Tryz.ntmps14
  go_wp2_with fail
  refine (right_calls 5 i s y _ (by omega)).mono ?_
  rintro e w1 ⟨rfl, hb1⟩
  rw [hr]
  have hlt0 : w.heap.size < (w.alloc (.cells #[.int .u8 5, .int .i64 i, .string s, .bool y] 23)).heap.size := box_lt w _
  have hwh : Whole w1 w.heap.size 23 #[.int .u8 5, .int .i64 i, .string s, .bool y] := (Whole.new w 23 _).below hb1 hlt0
  have hb2 : Below w.heap.size w w1 := ((Below.refl w.heap.size w).alloc (Nat.le_refl _) _).trans (hb1.mono (Nat.le_of_lt hlt0))
  have hc1 := hwh.cell
  have hf1 := hwh.frozen
  have hE1 : Env w1 := hE.below hb2
  clear hb1
  go_wp2_with fail
  refine (sixes_calls s w1 (by omega)).mono ?_
  rintro e w2 ⟨rfl, hb3⟩
  have hl := Bs.sixes_len s.data.toList
  have hl2 : s.data.toList.length = s.size := by simp
  go_wp2_with fail
  exact bodyPost_ret (v := .tuple #[S ([58] ++ Bs.sixes s.data.toList ++ [58]), .int .i64 0]) (by simp [results, Tryz.results14, go_sem]; apply ba_ext; simp [ba_append]) rfl ⟨rfl, hb2.trans (hb3.mono hb2.size)⟩

set_option maxHeartbeats 4000000 in
theorem print_yes (i : Int) (s : ByteArray) (y : Bool) (w : World) (hE : Env w) (hs : s.size ≤ 1000000000) (hr : Bs.right ⟨6, i, s.data.toList, y⟩ = true) :
    Calls Tryz.prog 14 #[bV 6 i s y] w fun e w' => e = .returned (printV ⟨6, i, s.data.toList, y⟩) ∧ Below w.heap.size w w' := by
  cases y
  · rw [printV_yes hr (t := [63, 48]) rfl]
    go_enter Tryz.func14, Tryz.ntmps14
    go_wp2_with fail
    refine (right_calls 6 i s false _ (by omega)).mono ?_
    rintro e w1 ⟨rfl, hb1⟩
    rw [hr]
    have hlt0 : w.heap.size < (w.alloc (.cells #[.int .u8 6, .int .i64 i, .string s, .bool false] 23)).heap.size := box_lt w _
    have hwh : Whole w1 w.heap.size 23 #[.int .u8 6, .int .i64 i, .string s, .bool false] := (Whole.new w 23 _).below hb1 hlt0
    have hb2 : Below w.heap.size w w1 := ((Below.refl w.heap.size w).alloc (Nat.le_refl _) _).trans (hb1.mono (Nat.le_of_lt hlt0))
    have hc1 := hwh.cell
    have hf1 := hwh.frozen
    have hE1 : Env w1 := hE.below hb2
    clear hb1
    go_wp2_with fail
    exact bodyPost_ret (v := .tuple #[S [63, 48], .int .i64 0]) (by simp [results, Tryz.results14, go_sem]) rfl ⟨rfl, hb2⟩
  · rw [printV_yes hr (t := [63, 49]) rfl]
    go_enter Tryz.func14, Tryz.ntmps14
    go_wp2_with fail
    refine (right_calls 6 i s true _ (by omega)).mono ?_
    rintro e w1 ⟨rfl, hb1⟩
    rw [hr]
    have hlt0 : w.heap.size < (w.alloc (.cells #[.int .u8 6, .int .i64 i, .string s, .bool true] 23)).heap.size := box_lt w _
    have hwh : Whole w1 w.heap.size 23 #[.int .u8 6, .int .i64 i, .string s, .bool true] := (Whole.new w 23 _).below hb1 hlt0
    have hb2 : Below w.heap.size w w1 := ((Below.refl w.heap.size w).alloc (Nat.le_refl _) _).trans (hb1.mono (Nat.le_of_lt hlt0))
    have hc1 := hwh.cell
    have hf1 := hwh.frozen
    have hE1 : Env w1 := hE.below hb2
    clear hb1
    go_wp2_with fail
    exact bodyPost_ret (v := .tuple #[S [63, 49], .int .i64 0]) (by simp [results, Tryz.results14, go_sem]) rfl ⟨rfl, hb2⟩

set_option maxHeartbeats 4000000 in
theorem print_text (i : Int) (s : ByteArray) (y : Bool) (w : World) (hE : Env w) (hs : s.size ≤ 1000000000) (hr : Bs.right ⟨3, i, s.data.toList, y⟩ = true) :
    Calls Tryz.prog 14 #[bV 3 i s y] w fun e w' => e = .returned (printV ⟨3, i, s.data.toList, y⟩) ∧ Below w.heap.size w w' := by
  obtain ⟨T1, hT1⟩ : ∃ T1, T1 = Bs.sub1 92 [92, 92] s.data.toList := ⟨_, rfl⟩
  obtain ⟨T2, hT2⟩ : ∃ T2, T2 = Bs.sub1 34 [92, 34] T1 := ⟨_, rfl⟩
  have hl0 : s.data.toList.length = s.size := by simp
  have hl1 : T1.length ≤ 2 * s.size := by have := Bs.sub1_len 92 [92, 92] rfl s.data.toList; rw [hT1]; omega
  have hl2 : T2.length ≤ 4 * s.size := by have := Bs.sub1_len 34 [92, 34] rfl T1; rw [hT2]; omega
  rw [printV_yes hr (t := [34] ++ T2 ++ [34]) (by rw [hT2, hT1, Bs.quote_two]; rfl)]
  have r1 := fun w hE => replace_calls s 92 92 92 w hE (by omega)
  have r2 := fun w hE => replace_calls ⟨T1.toArray⟩ 34 92 34 w hE (by show T1.toArray.size ≤ _; simp; omega)
  rw [show (⟨T1.toArray⟩ : ByteArray).data.toList = T1 from by simp, ← hT2] at r2
  rw [← hT1] at r1
  clear hT1 hT2
  go_enter Tryz.func14, Tryz.ntmps14
  go_wp2_with fail
  refine (right_calls 3 i s y _ (by omega)).mono ?_
  rintro e w1 ⟨rfl, hb1⟩
  rw [hr]
  have hlt0 : w.heap.size < (w.alloc (.cells #[.int .u8 3, .int .i64 i, .string s, .bool y] 23)).heap.size := box_lt w _
  have hwh : Whole w1 w.heap.size 23 #[.int .u8 3, .int .i64 i, .string s, .bool y] := (Whole.new w 23 _).below hb1 hlt0
  have hb2 : Below w.heap.size w w1 := ((Below.refl w.heap.size w).alloc (Nat.le_refl _) _).trans (hb1.mono (Nat.le_of_lt hlt0))
  have hc1 := hwh.cell
  have hf1 := hwh.frozen
  have hE1 : Env w1 := hE.below hb2
  clear hb1
  go_wp2_with fail
  refine (r1 w1 hE1).mono ?_
  rintro e w2 ⟨rfl, hb3⟩
  have hE2 := hE1.below hb3
  go_wp2_with fail
  refine (r2 w2 hE2).mono ?_
  rintro e w3 ⟨rfl, hb4⟩
  go_wp2_with fail
  exact bodyPost_ret (v := .tuple #[S ([34] ++ T2 ++ [34]), .int .i64 0]) (by simp [results, Tryz.results14, go_sem]; apply ba_ext; simp [ba_append]) rfl ⟨rfl, (hb2.trans (hb3.mono hb2.size)).trans (hb4.mono (Nat.le_trans hb2.size hb3.size))⟩

theorem print_calls (k : Nat) (i : Int) (s : ByteArray) (y : Bool) (w : World) (hE : Env w) (hs : s.size ≤ 1000000000) :
    Calls Tryz.prog 14 #[bV k i s y] w fun e w' => e = .returned (printV ⟨k, i, s.data.toList, y⟩) ∧ Below w.heap.size w w' := by
  cases hr : Bs.right ⟨k, i, s.data.toList, y⟩ with
  | false => exact print_no k i s y w hE hs hr
  | true =>
    by_cases h1 : k = 1
    · subst h1; exact print_int i s y w hE hs hr
    by_cases h2 : k = 2
    · subst h2; exact print_dec i s y w hE hs hr
    by_cases h3 : k = 3
    · subst h3; exact print_text i s y w hE hs hr
    by_cases h4 : k = 4
    · subst h4; exact print_tok i s y w hE hs hr
    by_cases h5 : k = 5
    · subst h5; exact print_bytes i s y w hE hs hr
    by_cases h6 : k = 6
    · subst h6; exact print_yes i s y w hE hs hr
    rw [right_no h1 h2 h3 h4 h5 h6] at hr; cases hr
end Go.Proofs.YtgamebffdcpjaaaGreatDoor
