/- Walks: bytes by sixes, as the reference tells them. -/
import Derived.Test.YtgamebffdcpjaaaGreatDoorW11
import Derived.LoopN
namespace Go.Proofs.YtgamebffdcpjaaaGreatDoor
open Go.RowKit
set_option maxRecDepth 100000

theorem sixl_get (k : Nat) (h : k < (⟨#[65, 66, 67, 68, 69, 70, 71, 72, 73, 74, 75, 76, 77, 78, 79, 80, 81, 82, 83, 84, 85, 86, 87, 88, 89, 90, 97, 98, 99, 100, 101, 102, 103, 104, 105, 106, 107, 108, 109, 110, 111, 112, 113, 114, 115, 116, 117, 118, 119, 120, 121, 122, 48, 49, 50, 51, 52, 53, 54, 55, 56, 57, 43, 47]⟩ : ByteArray).size) :
    (⟨#[65, 66, 67, 68, 69, 70, 71, 72, 73, 74, 75, 76, 77, 78, 79, 80, 81, 82, 83, 84, 85, 86, 87, 88, 89, 90, 97, 98, 99, 100, 101, 102, 103, 104, 105, 106, 107, 108, 109, 110, 111, 112, 113, 114, 115, 116, 117, 118, 119, 120, 121, 122, 48, 49, 50, 51, 52, 53, 54, 55, 56, 57, 43, 47]⟩ : ByteArray)[k]'h = Bs.sx k := by
  rw [ba_get]
  have hk : k < 64 := h
  unfold Bs.sx
  rw [Nat.mod_eq_of_lt hk]
  rfl

theorem cells4 (w : World) (a b c d : Value) (t : TypeId) : ∀ (j : Nat) u, [a, b, c, d][j]? = some u → ((w.alloc (.cells #[a, b, c, d] t)).drew).cell? ((⟨w.heap.size, 0, none⟩ : Addr).add j) = some u := by
  intro j u hj
  have h := (Whole.new w t #[a, b, c, d]).cell
  have e : (⟨w.heap.size, 0, none⟩ : Addr).add j = ⟨w.heap.size, j, none⟩ := by unfold Addr.add; split <;> simp_all
  rw [e]
  have : ((w.alloc (.cells #[a, b, c, d] t)).drew).cell? ⟨w.heap.size, j, none⟩ = (w.alloc (.cells #[a, b, c, d] t)).cell? ⟨w.heap.size, j, none⟩ := rfl
  rw [this, h]
  simpa using hj

set_option maxHeartbeats 4000000 in
theorem rsixes_calls (s : ByteArray) (w : World) (hs : s.size ≤ 4000000000) :
    Calls Tryz.prog 25 #[.string s] w fun e w' => e = .returned (S (Bs.sixes s.data.toList)) ∧ Below w.heap.size w w' := by
  go_enter Tryz.func25, Tryz.ntmps25
  go_wp2
  go_loopw [3, 4, 5, 6, 7, 8, 9] (fun v i _ _ _ _ _ wr => ∃ (k : Nat) (out : Bs.Bytes), k ≤ s.size + 2 ∧ out.length ≤ 2 * k ∧ i = .int .i64 (k : Int) ∧
    OwnB wr w.heap.size v out ∧ Below w.heap.size w wr ∧ out ++ Bs.sixes (s.data.toList.drop k) = Bs.sixes s.data.toList) (fun _ i _ _ _ _ _ _ => s.size + 3 - (intOf i).toNat)
  case atStart => exact ⟨0, [], by omega, by simp, rfl, OwnB.nil _ _, Below.refl _ _, rfl⟩
  case round =>
    obtain ⟨k, out, hk, hol, rfl, hown, hb, hq⟩ := hrel
    have HQ := Lib.hid hq
    clear hq
    by_cases hlt : k < s.size
    · obtain ⟨i0, hi, hz0, hz1, hz2⟩ := info_parts info5
      have hb8 := s[k].toNat_lt
      have HD0 := Lib.hid (drop_cons s k hlt)
      by_cases h2 : k + 1 < s.size
      · have hb81 := s[k + 1].toNat_lt
        have HD1 := Lib.hid (drop_cons s (k + 1) h2)
        by_cases h3 : k + 2 < s.size
        · have hb82 := s[k + 2].toNat_lt
          have HD2 := Lib.hid (drop_cons s (k + 2) h3)
          have z1 : (k : Int) + 1 < (s.size : Int) := by omega
          have z2 : (k : Int) + 2 < (s.size : Int) := by omega
          go_wp2_with fail
          refine wp_loop_rounds 4 ?_
          iterate 4 (rw [rounds_succ]; go_wp2_with fail)
          obtain ⟨N, hN⟩ : ∃ N : Nat, N = s[k].toNat * 65536 + s[k + 1].toNat * 256 + s[k + 2].toNat := ⟨_, rfl⟩
          have eN : ((s[k].toNat : Int) * 256 + (s[k + 1].toNat : Int)) * 256 + (s[k + 2].toNat : Int) = (N : Int) := by omega
          have hN1 : N < 16777216 := by omega
          rw [eN]
          have HN := Lib.hid hN
          clear hN eN
          have n1 : 0 ≤ (N : Int) / 262144 := by omega
          have n2 : (N : Int) / 262144 < 64 := by omega
          have n3 : 0 ≤ (N : Int) / 4096 % 64 := by omega
          have n4 : (N : Int) / 4096 % 64 < 64 := by omega
          have n5 : 0 ≤ (N : Int) / 64 % 64 := by omega
          have n6 : (N : Int) / 64 % 64 < 64 := by omega
          have n7 : 0 ≤ (N : Int) % 64 := by omega
          have n8 : (N : Int) % 64 < 64 := by omega
          go_region
          simp only [sixl_get]
          go_wp2_with fail
          refine wp_loop_rounds 1 ?_
          rw [rounds_succ]
          go_wp2_with (at_builtin; refine wpList_append_own _ rfl _ _ 94 rfl w.heap.size 5 i0 (.int .u8 0) 1 1 Tryz.underlying94 hi hz0 hz1 hz2 rfl (by decide) _ _ _ rfl (OwnB.drew (hown.alloc _)) ⟨wr.heap.size, 0, none⟩ 4 4 [.int .u8 ((Bs.sx (N / 262144)).toNat : Int), .int .u8 ((Bs.sx (N / 4096 % 64)).toNat : Int), .int .u8 ((Bs.sx (N / 64 % 64)).toNat : Int), .int .u8 ((Bs.sx (N % 64)).toNat : Int)] rfl rfl (cells4 _ _ _ _ _ _) (by simp [Value.oneCell']) (by unfold maxLen; omega) (by omega) (by have := hb.size; simp; omega) ?_; intro v' w2 hown2 hg2 _)
          have hg3 := hg2
          refine ⟨⟨k + 3, out ++ Bs.four N 3, by omega, by simp [Bs.four]; omega, by rw [show (((k + 3 : Nat) : Int)) = (k : Int) + 3 from by omega], ?_, ?_, ?_⟩, by simp [intOf]; omega⟩
          · unfold OwnB; simpa [by8, Bs.four, Bs.sx_mod] using hown2
          · exact ((hb.alloc hb.size _).drew).grown hg2 (by have := hb.size; simp; omega) fun j e => (World.ownsRow.lt hown _ e).1
          · have hq2 := HQ.out
            rw [HD0.out, HD1.out, HD2.out] at hq2; simpa [Bs.sixes, HN.out] using hq2
        · have z1 : (k : Int) + 1 < (s.size : Int) := by omega
          have z2 : (s.size : Int) ≤ (k : Int) + 2 := by omega
          have HE := Lib.hid (drop_end s (k + 2) (by omega))
          have HE3 := Lib.hid (drop_end s (k + 3) (by omega))
          go_wp2_with fail
          refine wp_loop_rounds 4 ?_
          iterate 4 (rw [rounds_succ]; go_wp2_with fail)
          obtain ⟨N, hN⟩ : ∃ N : Nat, N = s[k].toNat * 65536 + s[k + 1].toNat * 256 := ⟨_, rfl⟩
          have eN : ((s[k].toNat : Int) * 256 + (s[k + 1].toNat : Int)) * 256 = (N : Int) := by omega
          have hN1 : N < 16777216 := by omega
          rw [eN]
          have HN := Lib.hid hN
          clear hN eN
          have n1 : 0 ≤ (N : Int) / 262144 := by omega
          have n2 : (N : Int) / 262144 < 64 := by omega
          have n3 : 0 ≤ (N : Int) / 4096 % 64 := by omega
          have n4 : (N : Int) / 4096 % 64 < 64 := by omega
          have n5 : 0 ≤ (N : Int) / 64 % 64 := by omega
          have n6 : (N : Int) / 64 % 64 < 64 := by omega
          have n7 : 0 ≤ (N : Int) % 64 := by omega
          have n8 : (N : Int) % 64 < 64 := by omega
          go_region
          simp only [sixl_get]
          go_wp2_with fail
          refine wp_loop_rounds 2 ?_
          iterate 1 (rw [rounds_succ]; go_wp2_with fail)
          rw [rounds_succ]
          go_wp2_with (at_builtin; refine wpList_append_own _ rfl _ _ 94 rfl w.heap.size 5 i0 (.int .u8 0) 1 1 Tryz.underlying94 hi hz0 hz1 hz2 rfl (by decide) _ _ _ rfl (OwnB.drew (hown.alloc _)) ⟨wr.heap.size, 0, none⟩ 4 4 [.int .u8 ((Bs.sx (N / 262144)).toNat : Int), .int .u8 ((Bs.sx (N / 4096 % 64)).toNat : Int), .int .u8 ((Bs.sx (N / 64 % 64)).toNat : Int), .int .u8 61] rfl rfl (cells4 _ _ _ _ _ _) (by simp [Value.oneCell']) (by unfold maxLen; omega) (by omega) (by have := hb.size; simp; omega) ?_; intro v' w2 hown2 hg2 _)
          have hg3 := hg2
          refine ⟨⟨k + 3, out ++ Bs.four N 2, by omega, by simp [Bs.four]; omega, by rw [show (((k + 3 : Nat) : Int)) = (k : Int) + 3 from by omega], ?_, ?_, ?_⟩, by simp [intOf]; omega⟩
          · unfold OwnB; simpa [by8, Bs.four, Bs.sx_mod] using hown2
          · exact ((hb.alloc hb.size _).drew).grown hg2 (by have := hb.size; simp; omega) fun j e => (World.ownsRow.lt hown _ e).1
          · have hq2 := HQ.out
            rw [HD0.out, HD1.out, HE.out] at hq2; rw [HE3.out]; simpa [Bs.sixes, HN.out] using hq2
      · have z1 : (s.size : Int) ≤ (k : Int) + 1 := by omega
        have z2 : (s.size : Int) ≤ (k : Int) + 2 := by omega
        have HE := Lib.hid (drop_end s (k + 1) (by omega))
        have HE3 := Lib.hid (drop_end s (k + 3) (by omega))
        go_wp2_with fail
        refine wp_loop_rounds 4 ?_
        iterate 4 (rw [rounds_succ]; go_wp2_with fail)
        obtain ⟨N, hN⟩ : ∃ N : Nat, N = s[k].toNat * 65536 := ⟨_, rfl⟩
        have eN : (s[k].toNat : Int) * 256 * 256 = (N : Int) := by omega
        have hN1 : N < 16777216 := by omega
        rw [eN]
        have HN := Lib.hid hN
        clear hN eN
        have n1 : 0 ≤ (N : Int) / 262144 := by omega
        have n2 : (N : Int) / 262144 < 64 := by omega
        have n3 : 0 ≤ (N : Int) / 4096 % 64 := by omega
        have n4 : (N : Int) / 4096 % 64 < 64 := by omega
        have n5 : 0 ≤ (N : Int) / 64 % 64 := by omega
        have n6 : (N : Int) / 64 % 64 < 64 := by omega
        have n7 : 0 ≤ (N : Int) % 64 := by omega
        have n8 : (N : Int) % 64 < 64 := by omega
        go_region
        simp only [sixl_get]
        go_wp2_with fail
        refine wp_loop_rounds 3 ?_
        iterate 2 (rw [rounds_succ]; go_wp2_with fail)
        rw [rounds_succ]
        go_wp2_with (at_builtin; refine wpList_append_own _ rfl _ _ 94 rfl w.heap.size 5 i0 (.int .u8 0) 1 1 Tryz.underlying94 hi hz0 hz1 hz2 rfl (by decide) _ _ _ rfl (OwnB.drew (hown.alloc _)) ⟨wr.heap.size, 0, none⟩ 4 4 [.int .u8 ((Bs.sx (N / 262144)).toNat : Int), .int .u8 ((Bs.sx (N / 4096 % 64)).toNat : Int), .int .u8 61, .int .u8 61] rfl rfl (cells4 _ _ _ _ _ _) (by simp [Value.oneCell']) (by unfold maxLen; omega) (by omega) (by have := hb.size; simp; omega) ?_; intro v' w2 hown2 hg2 _)
        have hg3 := hg2
        refine ⟨⟨k + 3, out ++ Bs.four N 1, by omega, by simp [Bs.four]; omega, by rw [show (((k + 3 : Nat) : Int)) = (k : Int) + 3 from by omega], ?_, ?_, ?_⟩, by simp [intOf]; omega⟩
        · unfold OwnB; simpa [by8, Bs.four, Bs.sx_mod] using hown2
        · exact ((hb.alloc hb.size _).drew).grown hg2 (by have := hb.size; simp; omega) fun j e => (World.ownsRow.lt hown _ e).1
        · have hq2 := HQ.out
          rw [HD0.out, HE.out] at hq2; rw [HE3.out]; simpa [Bs.sixes, HN.out] using hq2
    · have hx : (convert 94 9 u3).run Tryz.prog wr = .ok (.string ⟨out.toArray⟩) wr := hown.text 0
      go_wp2_with fail
      go_ret
      refine ⟨?_, hb⟩
      rw [← HQ.out, drop_end s k (by omega)]
      simp [Bs.sixes]
end Go.Proofs.YtgamebffdcpjaaaGreatDoor
