/- Walks: an item's text, as the reference tells it (numbers). -/
import Derived.Test.YtgamebffdcpjaaaGreatDoorW18
namespace Go.Proofs.YtgamebffdcpjaaaGreatDoor
open Go.RowKit
set_option maxRecDepth 100000

theorem itoa_pos (n : Nat) : Lib.itoa (n : Int) = Bs.rdg n 1 [] := by
  rw [Bs.rdg_one]; unfold Lib.itoa; rw [if_neg (by omega)]; rfl
theorem itoa_neg' {n : Nat} (h : 0 < n) : Lib.itoa (-(n : Int)) = 45 :: Bs.rdg n 1 [] := by
  rw [Bs.rdg_one]; unfold Lib.itoa; rw [if_pos (by omega)]; simp
theorem rdg_len (n : Nat) (h : n ≤ 4000000000000000) : ∀ k, (Bs.rdg n 1 []).length ≤ k + 4000000000000000 + 1 := by
  intro k
  have : ∀ (m l : Nat) (acc : Bs.Bytes), (Bs.rdg m l acc).length ≤ acc.length + m + l := by
    intro m
    induction m using Nat.strongRecOn with
    | _ m ih =>
      intro l
      induction l with
      | zero =>
        intro acc
        by_cases hm : m = 0
        · subst hm; rw [Bs.rdg_nil]; omega
        · rw [Bs.rdg_step (by omega)]
          have := ih (m / 10) (by omega) (0 - 1) (UInt8.ofNat (48 + m % 10) :: acc)
          rw [List.length_cons] at this
          omega
      | succ l il =>
        intro acc
        rw [Bs.rdg_step (by omega)]
        by_cases hm : m = 0
        · subst hm
          have := il (UInt8.ofNat (48 + 0 % 10) :: acc)
          rw [List.length_cons] at this
          simpa using (by omega : (Bs.rdg 0 l (UInt8.ofNat (48 + 0 % 10) :: acc)).length ≤ acc.length + 0 + (l + 1))
        · have := ih (m / 10) (by omega) (l + 1 - 1) (UInt8.ofNat (48 + m % 10) :: acc)
          rw [List.length_cons] at this
          omega
  have := this n 1 []
  simp at this
  omega
theorem num_bound {k : Nat} (hk : k = 1 ∨ k = 2) {i : Int} {s : ByteArray} {y : Bool} (h : Bs.right ⟨k, i, s.data.toList, y⟩ = true) : -999999999999999 ≤ i ∧ i ≤ 999999999999999 := by
  rw [right_num hk] at h
  simp at h
  omega

set_option maxHeartbeats 4000000 in
theorem rprint_int (i : Int) (s : ByteArray) (y : Bool) (w : World) (hs : s.size ≤ 140737488351232) (hr : Bs.right ⟨1, i, s.data.toList, y⟩ = true) :
    Calls Tryz.prog 15 #[bV 1 i s y] w fun e w' => e = .returned (printV ⟨1, i, s.data.toList, y⟩) ∧ Below w.heap.size w w' := by
  obtain ⟨g1, g2⟩ := num_bound (.inl rfl) hr
  rw [printV_yes hr rfl]
  go_enter Tryz.func15, Tryz.ntmps15
  go_wp2_with fail
  refine (rright_calls 1 i s y _ hs).mono ?_
  rintro e w1 ⟨rfl, hb1⟩
  rw [hr]
  have hlt0 : w.heap.size < (w.alloc (.cells #[.int .u8 1, .int .i64 i, .string s, .bool y] 23)).heap.size := box_lt w _
  have hwh : Whole w1 w.heap.size 23 #[.int .u8 1, .int .i64 i, .string s, .bool y] := (Whole.new w 23 _).below hb1 hlt0
  have hb2 : Below w.heap.size w w1 := ((Below.refl w.heap.size w).alloc (Nat.le_refl _) _).trans (hb1.mono (Nat.le_of_lt hlt0))
  have hc1 := hwh.cell
  have hf1 := hwh.frozen
  clear hb1
  by_cases hi : i < 0
  · obtain ⟨n, hn⟩ : ∃ n : Nat, n = i.natAbs := ⟨_, rfl⟩
    obtain rfl : i = -(n : Int) := by omega
    clear hn
    go_wp2_with fail
    go_region
    go_wp2_with fail
    refine (digits_calls n 1 _ (by omega) (by omega)).mono ?_
    rintro e w2 ⟨rfl, hb3⟩
    have hl := rdg_len n (by omega) 0
    go_wp2_with fail
    exact bodyPost_ret (v := .tuple #[S (Bs.print ⟨1, -(n : Int), s.data.toList, y⟩), .int .i64 0]) (by simp [results, Tryz.results15, go_sem, Bs.print]; rw [itoa_neg' (by omega)]; apply ba_ext; simp [ba_append]) rfl ⟨rfl, (below_drew hb2).trans (hb3.mono hb2.size)⟩
  · obtain ⟨n, rfl⟩ : ∃ n : Nat, i = (n : Int) := ⟨i.toNat, by omega⟩
    go_wp2_with fail
    go_region
    go_wp2_with fail
    refine (digits_calls n 1 _ (by omega) (by omega)).mono ?_
    rintro e w2 ⟨rfl, hb3⟩
    have hl := rdg_len n (by omega) 0
    go_wp2_with fail
    exact bodyPost_ret (v := .tuple #[S (Bs.print ⟨1, (n : Int), s.data.toList, y⟩), .int .i64 0]) (by simp [results, Tryz.results15, go_sem, Bs.print]; rw [itoa_pos]; apply ba_ext; simp [ba_append]) rfl ⟨rfl, (below_drew hb2).trans (hb3.mono hb2.size)⟩
end Go.Proofs.YtgamebffdcpjaaaGreatDoor
