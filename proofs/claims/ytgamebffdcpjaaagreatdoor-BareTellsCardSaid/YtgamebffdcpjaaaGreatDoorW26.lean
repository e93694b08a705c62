/- Walks: bytes by sixes, as package bare tells them. -/
import Derived.Test.YtgamebffdcpjaaaGreatDoorM2
import Derived.Test.YtgamebffdcpjaaaGreatDoorA5
namespace Go.Proofs.YtgamebffdcpjaaaGreatDoor
open Go.RowKit Go.Shelf
attribute [local go_sem] Oper.semAt_some
set_option maxRecDepth 100000

theorem threes_calls (s : ByteArray) (w : World) : Calls Tryz.prog 85 #[.string s] w fun e w' =>
    e = .returned (.func (.func 151) #[] #[.pointer (some ⟨w.heap.size, 0, none⟩)]) ∧ w' = w.alloc (.cells #[.string s] 9) := by
  go_enter Tryz.func85, Tryz.ntmps85
  go_wp2_with fail
  go_ret
  exact ⟨rfl, rfl⟩

def threeV (x : Bs.Three) : Array Value := #[.int .u32 (x.1.1 : Int), .int .i64 (x.1.2 : Int)]

set_option maxHeartbeats 4000000 in
theorem threes_seq (s : ByteArray) (g n : Nat) (w0 : World) (hn : 2 ≤ n) (hs : s.size ≤ 140737488351232) (hw : Whole w0 g 9 #[.string s]) :
    SeqAt Fence.wide n Tryz.prog 151 #[.pointer (some ⟨g, 0, none⟩)] threeV (fun A B => B.heap[g]? = A.heap[g]?) (fun xs => xs = Bs.chunks s.data.toList) (s.size + 1) g w0 := by
  intro l J W hW hJ hY h0
  have hw1 : Whole W g 9 #[.string s] := hw.below hW hw.lt
  refine callsIn_of_wp Tryz.func151 rfl trivial ?_ rfl
  simp only [Tryz.ntmps151, List.size_toArray, List.length_cons, List.length_nil, Nat.reduceAdd, Nat.reduceSub, Array.replicate_succ, Array.replicate_zero, List.push_toArray, List.append_toArray, List.nil_append, List.cons_append]
  gi_wp2
  gi_loopw [3, 4] (fun _ _ wr => ∃ (pre : List Bs.Three) (t : ByteArray), pre.length + t.size ≤ s.size ∧ pre ++ Bs.chunks t.data.toList = Bs.chunks s.data.toList ∧ Whole wr g 9 #[.string t] ∧ J pre wr)
    (fun _ _ wr => match wr.cell? ⟨g, 0, none⟩ with | some (.string t) => t.size | _ => 0)
  case atStart => exact ⟨[], s, by simp, rfl, hw1, h0⟩
  case round =>
    obtain ⟨pre, t, ht, hq, hwt, hj⟩ := hrel
    have hc := hwt.cell
    have hf := hwt.frozen
    by_cases h0 : t.size = 0
    · have he : t.toList.isEmpty = true := by rw [ByteArray.toList_eq, List.isEmpty_iff]; exact List.eq_nil_of_length_eq_zero (by simpa using h0)
      gi_wp2
      go_end0
      refine ⟨⟨_, rfl⟩, _, hq, ?_⟩
      have : Bs.chunks t.data.toList = [] := by rw [List.eq_nil_of_length_eq_zero (l := t.data.toList) (by simpa using h0)]; rfl
      rw [this, List.append_nil]; exact hj
    · have he : t.toList.isEmpty = false := by
        rw [ByteArray.toList_eq, Bool.eq_false_iff, ne_eq, List.isEmpty_iff]
        intro e
        have := congrArg List.length e
        rw [Array.length_toList] at this
        exact h0 this
      have hb0 := t[0].toNat_lt
      have o0 : bits .or .u32 0 (t[0].toNat : Int) = (t[0].toNat : Int) := by
        have := u32_or_nat 0 t[0].toNat (by omega) (by omega)
        rw [Nat.zero_or] at this; exact this
      by_cases h1 : t.size = 1
      · have z1 : (t.size : Int) ≤ 1 := by omega
        have hx : threeV (Bs.three1 t[0]) = #[.int .u32 ((t[0].toNat : Int) * (256 : Int) * (256 : Int)), .int .i64 1] := by
          simp only [threeV, Bs.three1]
          congr 2
          · congr 1
            omega
        obtain ⟨fn, tmps, assign, body, hy, hR⟩ := hY pre (Bs.three1 t[0]) wr hj (by omega)
        rw [hx] at hy
        have l0 := drop_cons t 0 (by omega)
        rw [List.drop_zero] at l0
        have hlen : pre.length + 1 ≤ s.size := by omega
        have hm : min (3 : Int) (t.size : Int) = 1 := by omega
        have hm' : min (3 : Int) 1 = 1 := by decide
        gi_wp2
        refine wpIn_loop_rounds 4 ?_
        iterate 4 (rw [roundsIn_succ]; gi_wp2)
        refine ⟨fun _ => by omega, hR.mono ?_⟩
        rintro e W3 ⟨rfl, hJ3, hk3⟩
        have hw3 : Whole W3 g 9 #[.string t] := hk3.trans hwt
        have hc3 := hw3.cell
        have hf3 := hw3.frozen
        gi_wp2
        go_roundw
        case rel =>
          refine ⟨pre ++ [Bs.three1 t[0]], ByteArray.empty, ?_, ?_, ?_, hJ _ _ _ hJ3 (grownBy_setCell' W3 g _)⟩
          · simp; omega
          · rw [← hq]; rw [l0, drop_end t (0 + 1) (by omega)]; simp [Bs.chunks]
          · exact hw3.set 0 _
        case measure => simp [hc, hw3.set 0 _ |>.cell, (hw3.set 0 _).cell]; try omega
      · have hb1 := t[1].toNat_lt
        have o1 : bits .or .u32 ((t[0].toNat : Int) * (256 : Int)) (t[1].toNat : Int) = (t[0].toNat : Int) * (256 : Int) + (t[1].toNat : Int) := by
          have := u32_or_nat (t[0].toNat * 256) t[1].toNat (by omega) (by omega)
          rw [nat_join 8 _ _ (by omega) (by omega)] at this
          simpa using this
        have z1 : (1 : Int) < (t.size : Int) := by omega
        by_cases h2 : t.size = 2
        · have z2 : (t.size : Int) ≤ 2 := by omega
          have hx : threeV (Bs.three2 t[0] t[1]) = #[.int .u32 (((t[0].toNat : Int) * (256 : Int) + (t[1].toNat : Int)) * (256 : Int)), .int .i64 2] := by
            simp only [threeV, Bs.three2]
            congr 2
            · congr 1
              omega
          obtain ⟨fn, tmps, assign, body, hy, hR⟩ := hY pre (Bs.three2 t[0] t[1]) wr hj (by omega)
          rw [hx] at hy
          have l0 := drop_cons t 0 (by omega)
          rw [List.drop_zero] at l0
          have hlen : pre.length + 1 ≤ s.size := by omega
          have hm : min (3 : Int) (t.size : Int) = 2 := by omega
          have hm' : min (3 : Int) 2 = 2 := by decide
          gi_wp2
          refine wpIn_loop_rounds 4 ?_
          iterate 4 (rw [roundsIn_succ]; gi_wp2)
          refine ⟨fun _ => by omega, hR.mono ?_⟩
          rintro e W3 ⟨rfl, hJ3, hk3⟩
          have hw3 : Whole W3 g 9 #[.string t] := hk3.trans hwt
          have hc3 := hw3.cell
          have hf3 := hw3.frozen
          gi_wp2
          go_roundw
          case rel =>
            refine ⟨pre ++ [Bs.three2 t[0] t[1]], ByteArray.empty, ?_, ?_, ?_, hJ _ _ _ hJ3 (grownBy_setCell' W3 g _)⟩
            · simp; omega
            · rw [← hq]; rw [l0, drop_cons t (0 + 1) (by omega), drop_end t (0 + 1 + 1) (by omega)]; simp [Bs.chunks]
            · exact hw3.set 0 _
          case measure => simp [hc, hw3.set 0 _ |>.cell, (hw3.set 0 _).cell]; try omega
        · have hb2 := t[2].toNat_lt
          have o2 : bits .or .u32 (((t[0].toNat : Int) * (256 : Int) + (t[1].toNat : Int)) * (256 : Int)) (t[2].toNat : Int) = ((t[0].toNat : Int) * (256 : Int) + (t[1].toNat : Int)) * (256 : Int) + (t[2].toNat : Int) := by
            have := u32_or_nat ((t[0].toNat * 256 + t[1].toNat) * 256) t[2].toNat (by omega) (by omega)
            rw [nat_join 8 _ _ (by omega) (by omega)] at this
            simpa using this
          have z2 : (2 : Int) < (t.size : Int) := by omega
          have hx : threeV (Bs.three3 t[0] t[1] t[2]) = #[.int .u32 (((t[0].toNat : Int) * (256 : Int) + (t[1].toNat : Int)) * (256 : Int) + (t[2].toNat : Int)), .int .i64 3] := by
            simp only [threeV, Bs.three3]
            congr 2
            · congr 1
              omega
          obtain ⟨fn, tmps, assign, body, hy, hR⟩ := hY pre (Bs.three3 t[0] t[1] t[2]) wr hj (by omega)
          rw [hx] at hy
          have l0 := drop_cons t 0 (by omega)
          rw [List.drop_zero] at l0
          have hlen : pre.length + 1 ≤ s.size := by omega
          have hm : min (3 : Int) (t.size : Int) = 3 := by omega
          have hm' : min (3 : Int) 3 = 3 := by decide
          gi_wp2
          refine wpIn_loop_rounds 4 ?_
          iterate 4 (rw [roundsIn_succ]; gi_wp2)
          refine ⟨fun _ => by omega, hR.mono ?_⟩
          rintro e W3 ⟨rfl, hJ3, hk3⟩
          have hw3 : Whole W3 g 9 #[.string t] := hk3.trans hwt
          have hc3 := hw3.cell
          have hf3 := hw3.frozen
          gi_wp2
          go_roundw
          case rel =>
            refine ⟨pre ++ [Bs.three3 t[0] t[1] t[2]], t.extract 3 t.size, ?_, ?_, ?_, hJ _ _ _ hJ3 (grownBy_setCell' W3 g _)⟩
            · simp; omega
            · rw [← hq]; rw [l0, drop_cons t (0 + 1) (by omega), drop_cons t (0 + 1 + 1) (by omega), Lib.extract_to_end]; simp [Bs.chunks]
            · exact hw3.set 0 _
          case measure => simp [hc, hw3.set 0 _ |>.cell, (hw3.set 0 _).cell]; try omega
end Go.Proofs.YtgamebffdcpjaaaGreatDoor
