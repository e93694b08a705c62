/- Walks: numerals, as the reference tells them. -/
import Derived.Test.YtgamebffdcpjaaaGreatDoorW16
import Derived.Test.YtgamebffdcpjaaaGreatDoorA4
namespace Go.Proofs.YtgamebffdcpjaaaGreatDoor
open Go.RowKit
set_option maxRecDepth 100000

theorem text_one (w : World) (c : UInt8) (k : Nat) : (convert 94 9 (.slice (some ⟨w.heap.size, 0, none⟩) 1 1)).run Tryz.prog ((w.alloc (.cells #[.int .u8 (c.toNat : Int)] 5)).drewN k) = .ok (.string ⟨#[c]⟩) ((w.alloc (.cells #[.int .u8 (c.toNat : Int)] 5)).drewN k) := by
  rw [run_convert_bytes_arg (P := Tryz.prog) (off := 0) _ 94 5 Tryz.underlying94 Tryz.underlying5 w.heap.size 1 1 [(c.toNat : Int)] rfl ?_ 9 Tryz.underlying9]
  · simp [strOfNums]
  · intro i hi
    obtain rfl : i = 0 := by omega
    exact (Whole.new w 5 #[.int .u8 (c.toNat : Int)]).cell 0

set_option maxHeartbeats 4000000 in
theorem digits_calls (n least : Nat) (w : World) (hn : n ≤ 4000000000000000000) (hl : least ≤ 1000) :
    Calls Tryz.prog 67 #[.int .i64 (n : Int), .int .i64 (least : Int)] w fun e w' => e = .returned (S (Bs.rdg n least [])) ∧ Below w.heap.size w w' := by
  go_enter Tryz.func67, Tryz.ntmps67
  go_wp2_with fail
  go_loopw [0, 1, 5] (fun a b c wr => ∃ (m : Nat) (li : Int) (acc : Bs.Bytes), m ≤ n ∧ li ≤ 1000 ∧ acc.length + m + li.toNat ≤ n + least ∧ ((m : Int) - n ≤ li ∨ 0 ≤ li) ∧ a = .int .i64 (m : Int) ∧ b = .int .i64 li ∧ c = S acc ∧
    Below w.heap.size w wr ∧ Bs.rdg m li.toNat acc = Bs.rdg n least []) (fun a b _ _ => (intOf a).toNat + (intOf b).toNat)
  case atStart => exact ⟨n, least, [], by omega, by omega, by simp, by omega, rfl, rfl, rfl, Below.refl _ _, rfl⟩
  case round =>
    obtain ⟨m, li, acc, hm, hli, hal, hlo, rfl, rfl, rfl, hb, hq⟩ := hrel
    have HQ := Lib.hid hq
    clear hq
    by_cases hc : m = 0 ∧ li.toNat = 0
    · have z1 : (m : Int) ≤ 0 := by omega
      have z2 : li ≤ 0 := by omega
      go_wp2_with fail
      go_ret
      refine ⟨?_, hb⟩
      rw [← HQ.out, hc.1, hc.2, Bs.rdg_nil]
      rfl
    · have hc' := Bs.rdg_step (n := m) (least := li.toNat) (by omega) acc
      have C := Lib.hid hc'
      clear hc'
      by_cases hm0 : 0 < (m : Int)
      · obtain ⟨d, hd⟩ : ∃ d : UInt8, d = UInt8.ofNat (48 + m % 10) := ⟨_, rfl⟩
        have ed : (48 : Int) + (m : Int) % 10 = (d.toNat : Int) := by rw [hd]; simp; omega
        have hx : (convert 94 9 (.slice (some ⟨wr.heap.size, 0, none⟩) 1 1)).run Tryz.prog (wr.alloc (.cells #[.int .u8 (d.toNat : Int)] 5)) = .ok (.string ⟨#[d]⟩) (wr.alloc (.cells #[.int .u8 (d.toNat : Int)] 5)) := text_one wr d 0
        have D := Lib.hid hd
        clear hd
        go_wp2_with fail
        refine ⟨⟨m / 10, li - 1, d :: acc, by omega, by omega, by rw [List.length_cons]; omega, by omega, by go_num, by go_num, ?_, hb.alloc hb.size _, ?_⟩, ?_⟩
        · simp [S]
          apply ba_ext; simp [ba_append]
        · rw [← HQ.out, C.out, D.out, show (li - 1).toNat = li.toNat - 1 from by omega]
        · simp [intOf]; omega
      · obtain rfl : m = 0 := by omega
        have hl0 : 0 < li := by omega
        have hx : (convert 94 9 (.slice (some ⟨wr.heap.size, 0, none⟩) 1 1)).run Tryz.prog (wr.alloc (.cells #[.int .u8 48] 5)) = .ok (.string ⟨#[48]⟩) (wr.alloc (.cells #[.int .u8 48] 5)) := text_one wr 48 0
        go_wp2_with fail
        refine ⟨⟨0, li - 1, 48 :: acc, by omega, by omega, by rw [List.length_cons]; omega, by omega, by go_num, by go_num, ?_, hb.alloc hb.size _, ?_⟩, ?_⟩
        · simp [S]
          apply ba_ext; simp [ba_append]
        · rw [← HQ.out, C.out, show (li - 1).toNat = li.toNat - 1 from by omega]; rfl
        · simp [intOf]; omega
end Go.Proofs.YtgamebffdcpjaaaGreatDoor
