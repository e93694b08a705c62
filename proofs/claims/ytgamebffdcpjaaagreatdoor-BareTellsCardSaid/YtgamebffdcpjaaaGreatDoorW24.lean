/- Walks: which items may be, as package bare tells it. -/
import Derived.Test.YtgamebffdcpjaaaGreatDoorW23
import Derived.BigQuiet
import Derived.Deep.RegionWith
namespace Go.Proofs.YtgamebffdcpjaaaGreatDoor
open Go.RowKit
set_option maxRecDepth 100000

set_option maxHeartbeats 4000000 in
theorem fit_num (k : Nat) (i : Int) (s : ByteArray) (y : Bool) (w : World) :
    Calls Tryz.prog 145 #[bV k i s y] w fun e w' => e = .returned (.bool (decide (-999999999999999 ≤ i) && decide (i ≤ 999999999999999) && s.toList.isEmpty && !y)) ∧ Below w.heap.size w w' := by
  go_enter Tryz.func145, Tryz.ntmps145
  go_wp2_with fail
  all_goals go_ret
  all_goals refine ⟨ret_bool ?_, (Below.refl _ _).alloc (Nat.le_refl _) _⟩
  all_goals (simp_all <;> (intros; omega))

set_option maxHeartbeats 4000000 in
theorem fit_yes (k : Nat) (i : Int) (s : ByteArray) (y : Bool) (w : World) :
    Calls Tryz.prog 150 #[bV k i s y] w fun e w' => e = .returned (.bool (i == 0 && s.toList.isEmpty)) ∧ Below w.heap.size w w' := by
  go_enter Tryz.func150, Tryz.ntmps150
  go_wp2_with fail
  all_goals go_ret
  all_goals refine ⟨ret_bool ?_, (Below.refl _ _).alloc (Nat.le_refl _) _⟩
  all_goals simp_all

set_option maxHeartbeats 4000000 in
theorem fit_all (s : ByteArray) (w : World) :
    Calls Tryz.prog 149 #[.string s] w fun e w' => e = .returned (.bool true) ∧ w = w' := by
  go_enter Tryz.func149, Tryz.ntmps149
  go_wp2_with fail
  go_ret
  exact ⟨rfl, rfl⟩

set_option maxHeartbeats 4000000 in
theorem fit_plain (s : ByteArray) (w : World) (hs : s.size ≤ 140737488351232) :
    Calls Tryz.prog 148 #[.string s] w fun e w' => e = .returned (.bool (s.data.toList.all Bs.plain)) ∧ w = w' := by
  go_enter Tryz.func148, Tryz.ntmps148
  go_wp2_with fail
  go_loop [6] (fun v => ∃ j : Nat, j ≤ s.size ∧ v = .int .i64 (j : Int) ∧ ∀ x (h : x < s.size), x < j → Bs.plain s[x] = true) (fun v => s.size - (intOf v).toNat)
  case atStart => exact ⟨0, by omega, rfl, by intros; omega⟩
  case round =>
    obtain ⟨j, hj, rfl, hm⟩ := hrel
    by_cases hlt : j < s.size
    · have hb8 := s[j].toNat_lt
      cases hp : Bs.plain s[j] with
      | true =>
        go_wp2_with (go_at_call 136; refine (plain_calls _ _).mono ?_; rintro _ _ ⟨rfl, rfl⟩; rw [hp])
        refine ⟨⟨j + 1, by omega, by go_num, ?_⟩, by simp [intOf]; omega⟩
        intro x hx hxj
        by_cases ex : x = j
        · subst ex; exact hp
        · exact hm x hx (by omega)
      | false =>
        have hf : s.data.toList.all Bs.plain = false := by
          rw [Bool.eq_false_iff]; intro h; have := all_get.1 h j hlt; rw [hp] at this; cases this
        go_wp2_with (go_at_call 136; refine (plain_calls _ _).mono ?_; rintro _ _ ⟨rfl, rfl⟩; rw [hp])
        go_ret
        exact ⟨ret_bool (by first | rfl | exact hf.symm), rfl⟩
    · have hT : s.data.toList.all Bs.plain = true := all_get.2 fun x hx => hm x hx (by omega)
      go_wp2_with fail
      go_ret
      exact ⟨ret_bool (by first | rfl | exact hT.symm), rfl⟩

set_option maxHeartbeats 4000000 in
theorem fit_text148 (k : Nat) (i : Int) (s : ByteArray) (y : Bool) (w : World) (g : Nat) (r : Bool) (hw : Whole w g 33 #[.func (.func 148) #[] #[]])
    (hf : ∀ w, Calls Tryz.prog 148 #[.string s] w fun e w' => e = .returned (.bool r) ∧ w = w') :
    Calls Tryz.prog 147 #[bV k i s y, .pointer (some ⟨g, 0, none⟩)] w fun e w' => e = .returned (.bool (i == 0 && !y && r)) ∧ Below w.heap.size w w' := by
  have hlt := hw.lt
  have hc : ∀ o, (w.alloc o).cell? ⟨g, 0, none⟩ = some (.func (.func 148) #[] #[]) := fun o => (hw.alloc o).cell 0
  go_enter Tryz.func147, Tryz.ntmps147
  go_wp2_with (go_at_call 148; refine (hf _).mono ?_; rintro _ _ ⟨rfl, rfl⟩)
  all_goals go_ret
  all_goals refine ⟨ret_bool ?_, (Below.refl _ _).alloc (Nat.le_refl _) _⟩
  all_goals simp_all

set_option maxHeartbeats 4000000 in
theorem fit_text22 (k : Nat) (i : Int) (s : ByteArray) (y : Bool) (w : World) (g : Nat) (r : Bool) (hw : Whole w g 33 #[.func (.func 22) #[] #[]])
    (hf : ∀ w, Calls Tryz.prog 22 #[.string s] w fun e w' => e = .returned (.bool r) ∧ w = w') :
    Calls Tryz.prog 147 #[bV k i s y, .pointer (some ⟨g, 0, none⟩)] w fun e w' => e = .returned (.bool (i == 0 && !y && r)) ∧ Below w.heap.size w w' := by
  have hlt := hw.lt
  have hc : ∀ o, (w.alloc o).cell? ⟨g, 0, none⟩ = some (.func (.func 22) #[] #[]) := fun o => (hw.alloc o).cell 0
  go_enter Tryz.func147, Tryz.ntmps147
  go_wp2_with (go_at_call 22; refine (hf _).mono ?_; rintro _ _ ⟨rfl, rfl⟩)
  all_goals go_ret
  all_goals refine ⟨ret_bool ?_, (Below.refl _ _).alloc (Nat.le_refl _) _⟩
  all_goals simp_all

set_option maxHeartbeats 4000000 in
theorem fit_text149 (k : Nat) (i : Int) (s : ByteArray) (y : Bool) (w : World) (g : Nat) (r : Bool) (hw : Whole w g 33 #[.func (.func 149) #[] #[]])
    (hf : ∀ w, Calls Tryz.prog 149 #[.string s] w fun e w' => e = .returned (.bool r) ∧ w = w') :
    Calls Tryz.prog 147 #[bV k i s y, .pointer (some ⟨g, 0, none⟩)] w fun e w' => e = .returned (.bool (i == 0 && !y && r)) ∧ Below w.heap.size w w' := by
  have hlt := hw.lt
  have hc : ∀ o, (w.alloc o).cell? ⟨g, 0, none⟩ = some (.func (.func 149) #[] #[]) := fun o => (hw.alloc o).cell 0
  go_enter Tryz.func147, Tryz.ntmps147
  go_wp2_with (go_at_call 149; refine (hf _).mono ?_; rintro _ _ ⟨rfl, rfl⟩)
  all_goals go_ret
  all_goals refine ⟨ret_bool ?_, (Below.refl _ _).alloc (Nat.le_refl _) _⟩
  all_goals simp_all


theorem run_fit {j : Nat} (k : Nat) (v : Value) (w : World) (b g : Nat) (hb : w.heap[b]? = some (.map (fitsEs g) 6)) (hf : Instr.findNow (.int .u8) (.int .u8 (k : Int)) (fitsEs g).toList 0 = some (some (j, v))) :
    (Instr.lookup 101 (.map (some b)) (.int .u8 (k : Int)) false).run Tryz.prog w = .ok v w := by
  simp [Instr.lookup, run_underlying Tryz.underlying101, MapKept.run_getObj_map hb, MapKept.run_checkKey (d := .int .u8) Tryz.underlying5 (k := .int .u8 (k : Int)) (by trivial), MapKept.run_findKey (d := .int .u8) Tryz.underlying5 hf, Result.andThen]
theorem run_neq_nil (f : Fn) (b c : Array Value) (w : World) : (binOp .neq 32 (.func f b c) .nilFunc).run Tryz.prog w = .ok (.bool true) w := by rfl
theorem run_neq_nil' (w : World) : (binOp .neq 32 .nilFunc .nilFunc).run Tryz.prog w = .ok (.bool false) w := by rfl
theorem run_fit_no (k : Nat) (w : World) (b g : Nat) (hb : w.heap[b]? = some (.map (fitsEs g) 6)) (hf : Instr.findNow (.int .u8) (.int .u8 (k : Int)) (fitsEs g).toList 0 = some none) :
    (Instr.lookup 101 (.map (some b)) (.int .u8 (k : Int)) false).run Tryz.prog w = .ok .nilFunc w := by
  have hz : (zeroValue 32).run Tryz.prog w = .ok .nilFunc w := by kernel_rfl
  simp [Instr.lookup, run_underlying Tryz.underlying101, MapKept.run_getObj_map hb, MapKept.run_checkKey (d := .int .u8) Tryz.underlying5 (k := .int .u8 (k : Int)) (by trivial), MapKept.run_findKey (d := .int .u8) Tryz.underlying5 hf, Result.andThen, hz]

set_option maxHeartbeats 4000000 in
theorem right_int (i : Int) (s : ByteArray) (y : Bool) (w : World) :
    Calls Tryz.prog 20 #[bV 1 i s y] w fun e w' => e = .returned (.bool (Bs.right ⟨1, i, s.data.toList, y⟩)) ∧ Below w.heap.size w w' := by
  have e0 : Bs.right ⟨1, i, s.data.toList, y⟩ = _ := right_num (.inl rfl) i s y
  rw [e0]
  clear e0
  obtain ⟨W0, hW0⟩ : ∃ W0 : World, W0 = w.alloc (.cells #[.int .u8 1, .int .i64 i, .string s, .bool y] 23) := ⟨_, rfl⟩
  have hwh : Whole W0 w.heap.size 23 #[.int .u8 1, .int .i64 i, .string s, .bool y] := hW0 ▸ Whole.new w 23 _
  have hb0 : Below w.heap.size w W0 := hW0 ▸ (Below.refl w.heap.size w).alloc (Nat.le_refl _) _
  have hlt0 := hwh.lt
  have hc0 := hwh.cell
  have hf0 := hwh.frozen
  have hne := run_neq_nil
  have hne' := run_neq_nil'
  go_enter Tryz.func20, Tryz.ntmps20
  go_wp2_with fail
  rw [← hW0]
  clear hW0
  go_region_with (go_at_call 83; refine (fits_calls _).mono ?_; rintro e w1 ⟨rfl, hm1, hg3, hg4, hg5, hb1⟩; have hlk : (Instr.lookup 101 (.map (some W0.heap.size)) (.int .u8 1) false).run Tryz.prog w1 = .ok (.func (.func 145) #[] #[]) w1 := run_fit 1 (.func (.func 145) #[] #[]) w1 _ _ hm1 rfl; have hwh1 := (hwh.drew).below hb1 hlt0; have hb2 := (below_drew hb0).trans (hb1.mono (Nat.le_of_lt hlt0)); have hc1 := hwh1.cell; have hf1 := hwh1.frozen; clear hb1 hm1)
  all_goals go_wp2_with fail
  all_goals (refine (fit_num 1 i s y _).mono ?_)
  all_goals (rintro e w2 ⟨rfl, hb3⟩)
  all_goals (go_wp2_with fail)
  all_goals go_ret
  all_goals exact ⟨by first | rfl | exact ret_bool (by simp), hb2.trans (hb3.mono hb2.size)⟩
set_option maxHeartbeats 4000000 in
theorem right_dec (i : Int) (s : ByteArray) (y : Bool) (w : World) :
    Calls Tryz.prog 20 #[bV 2 i s y] w fun e w' => e = .returned (.bool (Bs.right ⟨2, i, s.data.toList, y⟩)) ∧ Below w.heap.size w w' := by
  have e0 : Bs.right ⟨2, i, s.data.toList, y⟩ = _ := right_num (.inr rfl) i s y
  rw [e0]
  clear e0
  obtain ⟨W0, hW0⟩ : ∃ W0 : World, W0 = w.alloc (.cells #[.int .u8 2, .int .i64 i, .string s, .bool y] 23) := ⟨_, rfl⟩
  have hwh : Whole W0 w.heap.size 23 #[.int .u8 2, .int .i64 i, .string s, .bool y] := hW0 ▸ Whole.new w 23 _
  have hb0 : Below w.heap.size w W0 := hW0 ▸ (Below.refl w.heap.size w).alloc (Nat.le_refl _) _
  have hlt0 := hwh.lt
  have hc0 := hwh.cell
  have hf0 := hwh.frozen
  have hne := run_neq_nil
  have hne' := run_neq_nil'
  go_enter Tryz.func20, Tryz.ntmps20
  go_wp2_with fail
  rw [← hW0]
  clear hW0
  go_region_with (go_at_call 83; refine (fits_calls _).mono ?_; rintro e w1 ⟨rfl, hm1, hg3, hg4, hg5, hb1⟩; have hlk : (Instr.lookup 101 (.map (some W0.heap.size)) (.int .u8 2) false).run Tryz.prog w1 = .ok (.func (.func 145) #[] #[]) w1 := run_fit 2 (.func (.func 145) #[] #[]) w1 _ _ hm1 rfl; have hwh1 := (hwh.drew).below hb1 hlt0; have hb2 := (below_drew hb0).trans (hb1.mono (Nat.le_of_lt hlt0)); have hc1 := hwh1.cell; have hf1 := hwh1.frozen; clear hb1 hm1)
  all_goals go_wp2_with fail
  all_goals (refine (fit_num 2 i s y _).mono ?_)
  all_goals (rintro e w2 ⟨rfl, hb3⟩)
  all_goals (go_wp2_with fail)
  all_goals go_ret
  all_goals exact ⟨by first | rfl | exact ret_bool (by simp), hb2.trans (hb3.mono hb2.size)⟩
set_option maxHeartbeats 4000000 in
theorem right_text (i : Int) (s : ByteArray) (y : Bool) (w : World) (hs : s.size ≤ 140737488351232) :
    Calls Tryz.prog 20 #[bV 3 i s y] w fun e w' => e = .returned (.bool (Bs.right ⟨3, i, s.data.toList, y⟩)) ∧ Below w.heap.size w w' := by
  have e0 : Bs.right ⟨3, i, s.data.toList, y⟩ = _ := (rfl : _ = (i == 0 && !y && s.data.toList.all Bs.plain))
  rw [e0]
  clear e0
  obtain ⟨W0, hW0⟩ : ∃ W0 : World, W0 = w.alloc (.cells #[.int .u8 3, .int .i64 i, .string s, .bool y] 23) := ⟨_, rfl⟩
  have hwh : Whole W0 w.heap.size 23 #[.int .u8 3, .int .i64 i, .string s, .bool y] := hW0 ▸ Whole.new w 23 _
  have hb0 : Below w.heap.size w W0 := hW0 ▸ (Below.refl w.heap.size w).alloc (Nat.le_refl _) _
  have hlt0 := hwh.lt
  have hc0 := hwh.cell
  have hf0 := hwh.frozen
  have hne := run_neq_nil
  have hne' := run_neq_nil'
  go_enter Tryz.func20, Tryz.ntmps20
  go_wp2_with fail
  rw [← hW0]
  clear hW0
  go_region_with (go_at_call 83; refine (fits_calls _).mono ?_; rintro e w1 ⟨rfl, hm1, hg3, hg4, hg5, hb1⟩; have hlk : (Instr.lookup 101 (.map (some W0.heap.size)) (.int .u8 3) false).run Tryz.prog w1 = .ok (.func (.func 147) #[] #[.pointer (some ⟨W0.heap.size + 1, 0, none⟩)]) w1 := run_fit 3 (.func (.func 147) #[] #[.pointer (some ⟨W0.heap.size + 1, 0, none⟩)]) w1 _ _ hm1 rfl; have hwh1 := (hwh.drew).below hb1 hlt0; have hb2 := (below_drew hb0).trans (hb1.mono (Nat.le_of_lt hlt0)); have hc1 := hwh1.cell; have hf1 := hwh1.frozen; clear hb1 hm1)
  all_goals go_wp2_with fail
  all_goals (refine (fit_text148 3 i s y _ _ _ hg3 (fun w => fit_plain s w hs)).mono ?_)
  all_goals (rintro e w2 ⟨rfl, hb3⟩)
  all_goals (go_wp2_with fail)
  all_goals go_ret
  all_goals exact ⟨by first | rfl | exact ret_bool (by simp), hb2.trans (hb3.mono hb2.size)⟩
set_option maxHeartbeats 4000000 in
theorem right_tok (i : Int) (s : ByteArray) (y : Bool) (w : World) (hs : s.size ≤ 140737488351232) :
    Calls Tryz.prog 20 #[bV 4 i s y] w fun e w' => e = .returned (.bool (Bs.right ⟨4, i, s.data.toList, y⟩)) ∧ Below w.heap.size w w' := by
  have e0 : Bs.right ⟨4, i, s.data.toList, y⟩ = _ := (rfl : _ = (i == 0 && !y && Bs.token s.data.toList))
  rw [e0]
  clear e0
  obtain ⟨W0, hW0⟩ : ∃ W0 : World, W0 = w.alloc (.cells #[.int .u8 4, .int .i64 i, .string s, .bool y] 23) := ⟨_, rfl⟩
  have hwh : Whole W0 w.heap.size 23 #[.int .u8 4, .int .i64 i, .string s, .bool y] := hW0 ▸ Whole.new w 23 _
  have hb0 : Below w.heap.size w W0 := hW0 ▸ (Below.refl w.heap.size w).alloc (Nat.le_refl _) _
  have hlt0 := hwh.lt
  have hc0 := hwh.cell
  have hf0 := hwh.frozen
  have hne := run_neq_nil
  have hne' := run_neq_nil'
  go_enter Tryz.func20, Tryz.ntmps20
  go_wp2_with fail
  rw [← hW0]
  clear hW0
  go_region_with (go_at_call 83; refine (fits_calls _).mono ?_; rintro e w1 ⟨rfl, hm1, hg3, hg4, hg5, hb1⟩; have hlk : (Instr.lookup 101 (.map (some W0.heap.size)) (.int .u8 4) false).run Tryz.prog w1 = .ok (.func (.func 147) #[] #[.pointer (some ⟨W0.heap.size + 2, 0, none⟩)]) w1 := run_fit 4 (.func (.func 147) #[] #[.pointer (some ⟨W0.heap.size + 2, 0, none⟩)]) w1 _ _ hm1 rfl; have hwh1 := (hwh.drew).below hb1 hlt0; have hb2 := (below_drew hb0).trans (hb1.mono (Nat.le_of_lt hlt0)); have hc1 := hwh1.cell; have hf1 := hwh1.frozen; clear hb1 hm1)
  all_goals go_wp2_with fail
  all_goals (refine (fit_text22 4 i s y _ _ _ hg4 (fun w => token_calls s w (by unfold maxLen; omega))).mono ?_)
  all_goals (rintro e w2 ⟨rfl, hb3⟩)
  all_goals (go_wp2_with fail)
  all_goals go_ret
  all_goals exact ⟨by first | rfl | exact ret_bool (by simp), hb2.trans (hb3.mono hb2.size)⟩
set_option maxHeartbeats 4000000 in
theorem right_bytes (i : Int) (s : ByteArray) (y : Bool) (w : World) :
    Calls Tryz.prog 20 #[bV 5 i s y] w fun e w' => e = .returned (.bool (Bs.right ⟨5, i, s.data.toList, y⟩)) ∧ Below w.heap.size w w' := by
  have e0 : Bs.right ⟨5, i, s.data.toList, y⟩ = _ := (by simp [Bs.right] : _ = (i == 0 && !y && true))
  rw [e0]
  clear e0
  obtain ⟨W0, hW0⟩ : ∃ W0 : World, W0 = w.alloc (.cells #[.int .u8 5, .int .i64 i, .string s, .bool y] 23) := ⟨_, rfl⟩
  have hwh : Whole W0 w.heap.size 23 #[.int .u8 5, .int .i64 i, .string s, .bool y] := hW0 ▸ Whole.new w 23 _
  have hb0 : Below w.heap.size w W0 := hW0 ▸ (Below.refl w.heap.size w).alloc (Nat.le_refl _) _
  have hlt0 := hwh.lt
  have hc0 := hwh.cell
  have hf0 := hwh.frozen
  have hne := run_neq_nil
  have hne' := run_neq_nil'
  go_enter Tryz.func20, Tryz.ntmps20
  go_wp2_with fail
  rw [← hW0]
  clear hW0
  go_region_with (go_at_call 83; refine (fits_calls _).mono ?_; rintro e w1 ⟨rfl, hm1, hg3, hg4, hg5, hb1⟩; have hlk : (Instr.lookup 101 (.map (some W0.heap.size)) (.int .u8 5) false).run Tryz.prog w1 = .ok (.func (.func 147) #[] #[.pointer (some ⟨W0.heap.size + 3, 0, none⟩)]) w1 := run_fit 5 (.func (.func 147) #[] #[.pointer (some ⟨W0.heap.size + 3, 0, none⟩)]) w1 _ _ hm1 rfl; have hwh1 := (hwh.drew).below hb1 hlt0; have hb2 := (below_drew hb0).trans (hb1.mono (Nat.le_of_lt hlt0)); have hc1 := hwh1.cell; have hf1 := hwh1.frozen; clear hb1 hm1)
  all_goals go_wp2_with fail
  all_goals (refine (fit_text149 5 i s y _ _ _ hg5 (fun w => fit_all s w)).mono ?_)
  all_goals (rintro e w2 ⟨rfl, hb3⟩)
  all_goals (go_wp2_with fail)
  all_goals go_ret
  all_goals exact ⟨by first | rfl | exact ret_bool (by simp), hb2.trans (hb3.mono hb2.size)⟩
set_option maxHeartbeats 4000000 in
theorem right_yes (i : Int) (s : ByteArray) (y : Bool) (w : World) :
    Calls Tryz.prog 20 #[bV 6 i s y] w fun e w' => e = .returned (.bool (Bs.right ⟨6, i, s.data.toList, y⟩)) ∧ Below w.heap.size w w' := by
  have e0 : Bs.right ⟨6, i, s.data.toList, y⟩ = _ := (by rw [ByteArray.toList_eq]; rfl : _ = (i == 0 && s.toList.isEmpty))
  rw [e0]
  clear e0
  obtain ⟨W0, hW0⟩ : ∃ W0 : World, W0 = w.alloc (.cells #[.int .u8 6, .int .i64 i, .string s, .bool y] 23) := ⟨_, rfl⟩
  have hwh : Whole W0 w.heap.size 23 #[.int .u8 6, .int .i64 i, .string s, .bool y] := hW0 ▸ Whole.new w 23 _
  have hb0 : Below w.heap.size w W0 := hW0 ▸ (Below.refl w.heap.size w).alloc (Nat.le_refl _) _
  have hlt0 := hwh.lt
  have hc0 := hwh.cell
  have hf0 := hwh.frozen
  have hne := run_neq_nil
  have hne' := run_neq_nil'
  go_enter Tryz.func20, Tryz.ntmps20
  go_wp2_with fail
  rw [← hW0]
  clear hW0
  go_region_with (go_at_call 83; refine (fits_calls _).mono ?_; rintro e w1 ⟨rfl, hm1, hg3, hg4, hg5, hb1⟩; have hlk : (Instr.lookup 101 (.map (some W0.heap.size)) (.int .u8 6) false).run Tryz.prog w1 = .ok (.func (.func 150) #[] #[]) w1 := run_fit 6 (.func (.func 150) #[] #[]) w1 _ _ hm1 rfl; have hwh1 := (hwh.drew).below hb1 hlt0; have hb2 := (below_drew hb0).trans (hb1.mono (Nat.le_of_lt hlt0)); have hc1 := hwh1.cell; have hf1 := hwh1.frozen; clear hb1 hm1)
  all_goals go_wp2_with fail
  all_goals (refine (fit_yes 6 i s y _).mono ?_)
  all_goals (rintro e w2 ⟨rfl, hb3⟩)
  all_goals (go_wp2_with fail)
  all_goals go_ret
  all_goals exact ⟨by first | rfl | exact ret_bool (by simp), hb2.trans (hb3.mono hb2.size)⟩

theorem find_no (k : Nat) (g : Nat) (y1 : ((k : Int) == 1) = false) (y2 : ((k : Int) == 2) = false) (y3 : ((k : Int) == 3) = false) (y4 : ((k : Int) == 4) = false) (y5 : ((k : Int) == 5) = false) (y6 : ((k : Int) == 6) = false) :
    Instr.findNow (.int .u8) (.int .u8 (k : Int)) (fitsEs g).toList 0 = some none := by
  simp [fitsEs, Instr.findNow, Instr.sameNow, y1, y2, y3, y4, y5, y6]

set_option maxHeartbeats 4000000 in
theorem right_other (k : Nat) (h1 : k ≠ 1) (h2 : k ≠ 2) (h3 : k ≠ 3) (h4 : k ≠ 4) (h5 : k ≠ 5) (h6 : k ≠ 6) (i : Int) (s : ByteArray) (y : Bool) (w : World) :
    Calls Tryz.prog 20 #[bV k i s y] w fun e w' => e = .returned (.bool (Bs.right ⟨k, i, s.data.toList, y⟩)) ∧ Below w.heap.size w w' := by
  rw [right_no h1 h2 h3 h4 h5 h6]
  have y1 : ((k : Int) == 1) = false := by rw [beq_eq_false_iff_ne]; omega
  have y2 : ((k : Int) == 2) = false := by rw [beq_eq_false_iff_ne]; omega
  have y3 : ((k : Int) == 3) = false := by rw [beq_eq_false_iff_ne]; omega
  have y4 : ((k : Int) == 4) = false := by rw [beq_eq_false_iff_ne]; omega
  have y5 : ((k : Int) == 5) = false := by rw [beq_eq_false_iff_ne]; omega
  have y6 : ((k : Int) == 6) = false := by rw [beq_eq_false_iff_ne]; omega
  have hfn := fun g => find_no k g y1 y2 y3 y4 y5 y6
  clear y1 y2 y3 y4 y5 y6
  obtain ⟨W0, hW0⟩ : ∃ W0 : World, W0 = w.alloc (.cells #[.int .u8 (k : Int), .int .i64 i, .string s, .bool y] 23) := ⟨_, rfl⟩
  have hwh : Whole W0 w.heap.size 23 #[.int .u8 (k : Int), .int .i64 i, .string s, .bool y] := hW0 ▸ Whole.new w 23 _
  have hb0 : Below w.heap.size w W0 := hW0 ▸ (Below.refl w.heap.size w).alloc (Nat.le_refl _) _
  have hlt0 := hwh.lt
  have hc0 := hwh.cell
  have hf0 := hwh.frozen
  have hne := run_neq_nil
  have hne' := run_neq_nil'
  go_enter Tryz.func20, Tryz.ntmps20
  go_wp2_with fail
  rw [← hW0]
  clear hW0
  go_region_with (go_at_call 83; refine (fits_calls _).mono ?_; rintro e w1 ⟨rfl, hm1, hg3, hg4, hg5, hb1⟩; have hlk : (Instr.lookup 101 (.map (some W0.heap.size)) (.int .u8 (k : Int)) false).run Tryz.prog w1 = .ok .nilFunc w1 := run_fit_no k w1 _ _ hm1 (hfn _); have hwh1 := (hwh.drew).below hb1 hlt0; have hb2 := (below_drew hb0).trans (hb1.mono (Nat.le_of_lt hlt0)); have hc1 := hwh1.cell; have hf1 := hwh1.frozen; clear hb1 hm1)
  all_goals go_wp2_with fail
  all_goals go_ret
  all_goals exact ⟨rfl, hb2⟩

theorem right_calls (k : Nat) (i : Int) (s : ByteArray) (y : Bool) (w : World) (hs : s.size ≤ 140737488351232) :
    Calls Tryz.prog 20 #[bV k i s y] w fun e w' => e = .returned (.bool (Bs.right ⟨k, i, s.data.toList, y⟩)) ∧ Below w.heap.size w w' := by
  by_cases h1 : k = 1
  · subst h1; exact right_int i s y w
  by_cases h2 : k = 2
  · subst h2; exact right_dec i s y w
  by_cases h3 : k = 3
  · subst h3; exact right_text i s y w hs
  by_cases h4 : k = 4
  · subst h4; exact right_tok i s y w hs
  by_cases h5 : k = 5
  · subst h5; exact right_bytes i s y w
  by_cases h6 : k = 6
  · subst h6; exact right_yes i s y w
  exact right_other k h1 h2 h3 h4 h5 h6 i s y w
end Go.Proofs.YtgamebffdcpjaaaGreatDoor
