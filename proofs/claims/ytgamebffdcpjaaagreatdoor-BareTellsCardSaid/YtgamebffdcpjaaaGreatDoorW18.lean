/- Walks: an item's text, as the reference tells it. -/
import Derived.Test.YtgamebffdcpjaaaGreatDoorW17
namespace Go.Proofs.YtgamebffdcpjaaaGreatDoor
open Go.RowKit
set_option maxRecDepth 100000

def printV (b : Bs.Bare) : Value := if Bs.right b then .tuple #[S (Bs.print b), .int .i64 0] else .tuple #[S [], .int .i64 2]
theorem printV_no {b : Bs.Bare} (h : Bs.right b = false) : printV b = .tuple #[S [], .int .i64 2] := by unfold printV; rw [h]; rfl
theorem printV_yes {b : Bs.Bare} (h : Bs.right b = true) {t : Bs.Bytes} (ht : Bs.print b = t) : printV b = .tuple #[S t, .int .i64 0] := by unfold printV; rw [h, ht]; rfl
theorem box_lt (w : World) (o : Obj) : w.heap.size < (w.alloc o).heap.size := by unfold World.alloc; rw [Array.size_push]; omega
theorem S_self (s : ByteArray) : S s.data.toList = .string s := rfl

set_option maxHeartbeats 4000000 in
theorem rprint_no (k : Nat) (i : Int) (s : ByteArray) (y : Bool) (w : World) (hs : s.size ≤ 140737488351232) (hr : Bs.right ⟨k, i, s.data.toList, y⟩ = false) :
    Calls Tryz.prog 15 #[bV k i s y] w fun e w' => e = .returned (printV ⟨k, i, s.data.toList, y⟩) ∧ Below w.heap.size w w' := by
  rw [printV_no hr]
  go_enter Tryz.func15, Tryz.ntmps15
  go_wp2_with fail
  refine (rright_calls k i s y _ hs).mono ?_
  rintro e w1 ⟨rfl, hb1⟩
  rw [hr]
  have hlt0 : w.heap.size < (w.alloc (.cells #[.int .u8 (k : Int), .int .i64 i, .string s, .bool y] 23)).heap.size := box_lt w _
  have hwh : Whole w1 w.heap.size 23 #[.int .u8 (k : Int), .int .i64 i, .string s, .bool y] := (Whole.new w 23 _).below hb1 hlt0
  have hb2 : Below w.heap.size w w1 := ((Below.refl w.heap.size w).alloc (Nat.le_refl _) _).trans (hb1.mono (Nat.le_of_lt hlt0))
  have hc1 := hwh.cell
  have hf1 := hwh.frozen
  clear hb1
  go_wp2_with fail
  exact bodyPost_ret (v := .tuple #[S [], .int .i64 2]) (by simp [results, Tryz.results15, go_sem]) rfl ⟨rfl, hb2⟩

set_option maxHeartbeats 4000000 in
theorem rprint_tok (i : Int) (s : ByteArray) (y : Bool) (w : World) (hs : s.size ≤ 140737488351232) (hr : Bs.right ⟨4, i, s.data.toList, y⟩ = true) :
    Calls Tryz.prog 15 #[bV 4 i s y] w fun e w' => e = .returned (printV ⟨4, i, s.data.toList, y⟩) ∧ Below w.heap.size w w' := by
  rw [printV_yes hr rfl]
  obtain rfl : i = 0 := by
    simp [Bs.right] at hr; exact hr.1.1
  go_enter Tryz.func15, Tryz.ntmps15
  go_wp2_with fail
  refine (rright_calls 4 0 s y _ hs).mono ?_
  rintro e w1 ⟨rfl, hb1⟩
  rw [hr]
  have hlt0 : w.heap.size < (w.alloc (.cells #[.int .u8 4, .int .i64 0, .string s, .bool y] 23)).heap.size := box_lt w _
  have hwh : Whole w1 w.heap.size 23 #[.int .u8 4, .int .i64 0, .string s, .bool y] := (Whole.new w 23 _).below hb1 hlt0
  have hb2 : Below w.heap.size w w1 := ((Below.refl w.heap.size w).alloc (Nat.le_refl _) _).trans (hb1.mono (Nat.le_of_lt hlt0))
  have hc1 := hwh.cell
  have hf1 := hwh.frozen
  clear hb1
  go_wp2_with fail
  go_region
  go_wp2_with fail
  exact bodyPost_ret (v := .tuple #[S s.data.toList, .int .i64 0]) (by simp [results, Tryz.results15, go_sem]) rfl ⟨rfl, below_drew hb2⟩

set_option maxHeartbeats 4000000 in
theorem rprint_bytes (i : Int) (s : ByteArray) (y : Bool) (w : World) (hs : s.size ≤ 4000000000) (hr : Bs.right ⟨5, i, s.data.toList, y⟩ = true) :
    Calls Tryz.prog 15 #[bV 5 i s y] w fun e w' => e = .returned (printV ⟨5, i, s.data.toList, y⟩) ∧ Below w.heap.size w w' := by
  rw [printV_yes hr rfl]
  obtain rfl : i = 0 := by
    simp [Bs.right] at hr; exact hr.1
  go_enter Tryz.func15, Tryz.ntmps15
  go_wp2_with fail
  refine (rright_calls 5 0 s y _ (by omega)).mono ?_
  rintro e w1 ⟨rfl, hb1⟩
  rw [hr]
  have hlt0 : w.heap.size < (w.alloc (.cells #[.int .u8 5, .int .i64 0, .string s, .bool y] 23)).heap.size := box_lt w _
  have hwh : Whole w1 w.heap.size 23 #[.int .u8 5, .int .i64 0, .string s, .bool y] := (Whole.new w 23 _).below hb1 hlt0
  have hb2 : Below w.heap.size w w1 := ((Below.refl w.heap.size w).alloc (Nat.le_refl _) _).trans (hb1.mono (Nat.le_of_lt hlt0))
  have hc1 := hwh.cell
  have hf1 := hwh.frozen
  clear hb1
  go_wp2_with fail
  go_region
  go_wp2_with fail
  refine (rsixes_calls s _ hs).mono ?_
  rintro e w2 ⟨rfl, hb3⟩
  have hl := Bs.sixes_len s.data.toList
  have hl2 : s.data.toList.length = s.size := by simp
  have hl3 : (S (Bs.sixes s.data.toList)) = S (Bs.sixes s.data.toList) := rfl
  go_wp2_with fail
  exact bodyPost_ret (v := .tuple #[S (Bs.print ⟨5, 0, s.data.toList, y⟩), .int .i64 0]) (by simp [results, Tryz.results15, go_sem, Bs.print]; apply ba_ext; simp [ba_append]) rfl ⟨rfl, (below_drew hb2).trans (hb3.mono hb2.size)⟩

set_option maxHeartbeats 4000000 in
theorem rprint_yes (i : Int) (s : ByteArray) (y : Bool) (w : World) (hs : s.size ≤ 4000000000) (hr : Bs.right ⟨6, i, s.data.toList, y⟩ = true) :
    Calls Tryz.prog 15 #[bV 6 i s y] w fun e w' => e = .returned (printV ⟨6, i, s.data.toList, y⟩) ∧ Below w.heap.size w w' := by
  rw [printV_yes hr rfl]
  obtain rfl : i = 0 := by
    simp [Bs.right] at hr; exact hr.1
  go_enter Tryz.func15, Tryz.ntmps15
  go_wp2_with fail
  refine (rright_calls 6 0 s y _ (by omega)).mono ?_
  rintro e w1 ⟨rfl, hb1⟩
  rw [hr]
  have hlt0 : w.heap.size < (w.alloc (.cells #[.int .u8 6, .int .i64 0, .string s, .bool y] 23)).heap.size := box_lt w _
  have hwh : Whole w1 w.heap.size 23 #[.int .u8 6, .int .i64 0, .string s, .bool y] := (Whole.new w 23 _).below hb1 hlt0
  have hb2 : Below w.heap.size w w1 := ((Below.refl w.heap.size w).alloc (Nat.le_refl _) _).trans (hb1.mono (Nat.le_of_lt hlt0))
  have hc1 := hwh.cell
  have hf1 := hwh.frozen
  clear hb1
  cases y
  all_goals go_wp2_with fail
  all_goals go_region
  all_goals go_wp2_with fail
  · exact bodyPost_ret (v := .tuple #[S (Bs.print ⟨6, 0, s.data.toList, false⟩), .int .i64 0]) (by simp [results, Tryz.results15, go_sem, Bs.print]) rfl ⟨rfl, below_drew hb2⟩
  · exact bodyPost_ret (v := .tuple #[S (Bs.print ⟨6, 0, s.data.toList, true⟩), .int .i64 0]) (by simp [results, Tryz.results15, go_sem, Bs.print]) rfl ⟨rfl, below_drew hb2⟩
end Go.Proofs.YtgamebffdcpjaaaGreatDoor
