/- Walks: what sixes tell, as the reference reads them. -/
import Derived.Test.YtgamebffdcpjaaaGreatDoorW12
namespace Go.Proofs.YtgamebffdcpjaaaGreatDoor
open Go.RowKit
set_option maxRecDepth 100000

/-- The number and the count behind j letters from place i on. -/
def rn (l : Bs.Bytes) (i : Nat) : Nat → Nat × Nat
  | 0 => (0, 0)
  | j + 1 => ((rn l i j).1 * 64 + (Bs.six (l.getD (i + j) 0)).getD 0, (rn l i j).2 + if (Bs.six (l.getD (i + j) 0)).isSome then 1 else 0)
theorem six_getD_lt (c : UInt8) : (Bs.six c).getD 0 < 64 := by
  cases h : Bs.six c with
  | none => simp
  | some x => exact (Bs.six_lt h).1
theorem rn_lt (l : Bs.Bytes) (i : Nat) : ∀ j, (rn l i j).1 < 64 ^ j
  | 0 => by simp [rn]
  | j + 1 => by
    have h1 := rn_lt l i j
    have h2 := six_getD_lt (l.getD (i + j) 0)
    simp only [rn]
    rw [Nat.pow_succ]; omega
theorem rn_le (l : Bs.Bytes) (i : Nat) : ∀ j, (rn l i j).2 ≤ j
  | 0 => by simp [rn]
  | j + 1 => by
    have h1 := rn_le l i j
    simp only [rn]
    split <;> omega

theorem rn_four (l : Bs.Bytes) (k : Nat) (h : k + 3 < l.length) : ∃ a b c d, l.drop k = a :: b :: c :: d :: l.drop (k + 4) ∧ rn l k 4 = (Bs.rnum a b c d, Bs.rcount a b c d) := by
  refine ⟨l[k], l[k + 1], l[k + 2], l[k + 3], ?_, ?_⟩
  · rw [List.drop_eq_getElem_cons (by omega), List.drop_eq_getElem_cons (i := k + 1) (by omega), List.drop_eq_getElem_cons (i := k + 2) (by omega), List.drop_eq_getElem_cons (i := k + 3) (by omega)]
  · have g : ∀ j (hj : k + j < l.length), l.getD (k + j) 0 = l[k + j] := fun j hj => by rw [List.getD_eq_getElem?_getD, List.getElem?_eq_getElem hj]; rfl
    have g0 := g 0 (by omega)
    have g1 := g 1 (by omega)
    have g2 := g 2 (by omega)
    have g3 := g 3 (by omega)
    simp only [Nat.add_zero] at g0
    simp only [rn, Nat.add_zero, g0, g1, g2, g3, Bs.rnum, Bs.rcount]
    congr 1 <;> omega
theorem rdec_short {l : Bs.Bytes} (h : l.length < 4) : Bs.rdec l = some [] := by
  match l, h with
  | [], _ => rfl
  | [_], _ => rfl
  | [_, _], _ => rfl
  | [_, _, _], _ => rfl
  | _ :: _ :: _ :: _ :: _, h => simp at h; omega
theorem cells3 (w : World) (a b c : Value) (t : TypeId) (n : Nat) : ∀ (j : Nat) u, ([a, b, c].take n)[j]? = some u → (w.alloc (.cells #[a, b, c] t)).cell? ((⟨w.heap.size, 0, none⟩ : Addr).add j) = some u := by
  intro j u hj
  have h := (Whole.new w t #[a, b, c]).cell
  have e : (⟨w.heap.size, 0, none⟩ : Addr).add j = ⟨w.heap.size, j, none⟩ := by unfold Addr.add; split <;> simp_all
  rw [e, h]
  rw [List.getElem?_take] at hj
  split at hj
  · simpa using hj
  · cases hj
theorem OwnB.below {w w' : World} {B : Nat} {v : Value} {l : Bs.Bytes} (h : OwnB w B v l) (hb : Below w.heap.size w w') : OwnB w' B v l :=
  World.ownsRow.kept (row := none) h ⟨hb.os, hb.tape, hb.output, hb.size, fun i hi _ => hb.block i hi⟩ (Classical.em _)
theorem one_take (a b c : Int) (n : Nat) : ∀ u ∈ ([Value.int .u8 a, .int .u8 b, .int .u8 c].take n), u.oneCell' = true := by
  intro u hu
  have := List.mem_of_mem_take hu
  simp only [List.mem_cons, List.not_mem_nil, or_false] at this
  rcases this with rfl | rfl | rfl <;> rfl
theorem cells3_1 (w : World) (a b c : Value) (t : TypeId) : ∀ (j : Nat) u, [a][j]? = some u → (w.alloc (.cells #[a, b, c] t)).cell? ((⟨w.heap.size, 0, none⟩ : Addr).add j) = some u := cells3 w a b c t 1
theorem cells3_2 (w : World) (a b c : Value) (t : TypeId) : ∀ (j : Nat) u, [a, b][j]? = some u → (w.alloc (.cells #[a, b, c] t)).cell? ((⟨w.heap.size, 0, none⟩ : Addr).add j) = some u := cells3 w a b c t 2
theorem cells3_3 (w : World) (a b c : Value) (t : TypeId) : ∀ (j : Nat) u, [a, b, c][j]? = some u → (w.alloc (.cells #[a, b, c] t)).cell? ((⟨w.heap.size, 0, none⟩ : Addr).add j) = some u := cells3 w a b c t 3

set_option maxHeartbeats 4000000 in
theorem runsix_calls (s : ByteArray) (w : World) (hs : s.size ≤ 4000000000) :
    Calls Tryz.prog 19 #[.string s] w fun e w' => e = .returned (unsixV (Bs.unsix s.data.toList)) ∧ Below w.heap.size w w' := by
  have HU := Lib.hid (Bs.unsix_ref s.data.toList)
  go_enter Tryz.func19, Tryz.ntmps19
  go_wp2
  go_loopw [4, 5, 6, 7, 8, 9, 10] (fun v i _ _ _ _ _ wr => ∃ (k : Nat) (out : Bs.Bytes), k ≤ s.size ∧ out.length ≤ k ∧ i = .int .i64 (k : Int) ∧
    OwnB wr w.heap.size v out ∧ Below w.heap.size w wr ∧ (Bs.rdec (s.data.toList.drop k)).map (out ++ ·) = Bs.rdec s.data.toList) (fun _ i _ _ _ _ _ _ => s.size - (intOf i).toNat)
  case atStart => exact ⟨0, [], by omega, by simp, rfl, OwnB.nil _ _, Below.refl _ _, by simp⟩
  case round =>
    obtain ⟨k, out, hk, hol, rfl, hown, hb, hq⟩ := hrel
    have HQ := Lib.hid hq
    clear hq
    by_cases hlt : k + 3 < s.size
    · obtain ⟨i0, hi, hz0, hz1, hz2⟩ := info_parts info5
      have hlt' : (k : Int) + 3 < (s.size : Int) := by omega
      go_wp2_with fail
      obtain ⟨wo, rfl⟩ : ∃ wo : World, wo = wr := ⟨_, rfl⟩
      go_loop [6, 7, 8, 9] (fun n h j _ => ∃ q : Nat, q ≤ 4 ∧ j = .int .i64 (q : Int) ∧ n = .int .i64 ((rn s.data.toList k q).1 : Int) ∧ h = .int .i64 ((rn s.data.toList k q).2 : Int)) (fun _ _ j _ => 4 - (intOf j).toNat)
      case atStart => exact ⟨0, by omega, rfl, rfl, rfl⟩
      case round =>
        obtain ⟨q, hq4, rfl, rfl, rfl⟩ := hrel
        by_cases hq : q < 4
        · have hb8 := s[k + q].toNat_lt
          have hl1 := rn_lt s.data.toList k q
          have hl2 : 64 ^ q ≤ 64 ^ 3 := Nat.pow_le_pow_right (by omega) (by omega)
          have hl3 : (rn s.data.toList k q).1 < 262144 := Nat.lt_of_lt_of_le hl1 hl2
          have hl4 := rn_le s.data.toList k q
          have HG := Lib.hid (ba_get s (k + q) (by omega))
          clear hl1 hl2
          cases hx : Bs.six s[k + q] with
          | none =>
            have HX := Lib.hid (sixI_none hx)
            have e1 : (rn s.data.toList k (q + 1)).1 = (rn s.data.toList k q).1 * 64 := by simp only [rn, ← HG.out, hx]; simp
            have e2 : (rn s.data.toList k (q + 1)).2 = (rn s.data.toList k q).2 := by simp only [rn, ← HG.out, hx]; simp
            have E1 := Lib.hid e1
            have E2 := Lib.hid e2
            clear hx e1 e2
            go_wp2_with (go_at_call 82; refine (six_calls _ _).mono ?_; rintro e w' ⟨rfl, rfl⟩; rw [HX.out])
            exact ⟨⟨q + 1, by omega, by go_num, by rw [E1.out]; go_num, by rw [E2.out]⟩, by simp [intOf]; omega⟩
          | some x =>
            have hx64 := (Bs.six_lt hx).1
            have HX := Lib.hid (sixI_some hx)
            have e1 : (rn s.data.toList k (q + 1)).1 = (rn s.data.toList k q).1 * 64 + x := by simp only [rn, ← HG.out, hx]; simp
            have e2 : (rn s.data.toList k (q + 1)).2 = (rn s.data.toList k q).2 + 1 := by simp only [rn, ← HG.out, hx]; simp
            have E1 := Lib.hid e1
            have E2 := Lib.hid e2
            clear hx e1 e2
            go_wp2_with (go_at_call 82; refine (six_calls _ _).mono ?_; rintro e w' ⟨rfl, rfl⟩; rw [HX.out])
            exact ⟨⟨q + 1, by omega, by go_num, by rw [E1.out]; go_num, by rw [E2.out]; go_num⟩, by simp [intOf]; omega⟩
        · obtain rfl : q = 4 := by omega
          obtain ⟨a, b, c, d, hdr, hrn⟩ := rn_four s.data.toList k (by simpa using hlt)
          have hN4 : (rn s.data.toList k 4).1 < 16777216 := rn_lt s.data.toList k 4
          have hH4 := rn_le s.data.toList k 4
          obtain ⟨N, hN⟩ : ∃ N, N = (rn s.data.toList k 4).1 := ⟨_, rfl⟩
          obtain ⟨H, hH'⟩ : ∃ H, H = (rn s.data.toList k 4).2 := ⟨_, rfl⟩
          rw [← hN] at hN4
          rw [← hH'] at hH4
          rw [← hN, ← hH']
          have HN := Lib.hid (show N = Bs.rnum a b c d by rw [hN, hrn])
          have HH2 := Lib.hid (show Bs.rcount a b c d = H by rw [hH', hrn])
          have HR := Lib.hid hdr
          clear hdr hrn hN hH'
          by_cases h2 : H < 2
          · go_wp2_with fail
            go_ret2
            refine ⟨?_, hb⟩
            have hq2 := HQ.out
            rw [HR.out, Bs.rdec, if_pos (by rw [HH2.out]; exact h2)] at hq2
            rw [HU.out, ← hq2]; rfl
          · have h2' : 2 ≤ (H : Int) := by omega
            go_wp2_with (at_builtin; refine wpList_append_own _ rfl _ _ 94 rfl w.heap.size 5 i0 (.int .u8 0) 1 1 Tryz.underlying94 hi hz0 hz1 hz2 rfl (by decide) _ _ _ rfl (hown.alloc _) ⟨wo.heap.size, 0, none⟩ (H - 1) 3 ([.int .u8 ((N : Int) / 65536), .int .u8 ((N : Int) / 256 % 256), .int .u8 ((N : Int) % 256)].take (H - 1)) rfl (by simp; omega) (cells3 _ _ _ _ _ _) (one_take _ _ _ _) (by unfold maxLen; omega) (by omega) (by have := hb.size; simp; omega) ?_; intro v' w2 hown2 hg2 _)
            refine ⟨⟨k + 4, out ++ (Bs.rthree N).take (H - 1), by omega, by simp [Bs.rthree]; omega, by rw [show (((k + 4 : Nat) : Int)) = (k : Int) + 4 from by omega], ?_, ?_, ?_⟩, by simp [intOf]; omega⟩
            · have hB : (N : Int) / 65536 = (N : Int) / 65536 % 256 := by omega
              rw [hB] at hown2
              have hL : ((Bs.rthree N).take (H - 1)).length = H - 1 := by simp [Bs.rthree]; omega
              unfold OwnB
              rw [List.length_append, hL, List.map_append, List.map_take]
              simpa [by8, Bs.rthree, u8_cast] using hown2
            · exact (hb.alloc hb.size _).grown hg2 (by have := hb.size; simp; omega) fun j e => (World.ownsRow.lt hown _ e).1
            · have hq2 := HQ.out
              rw [HR.out, Bs.rdec, if_neg (by rw [HH2.out]; exact h2), ← HN.out, HH2.out] at hq2
              rw [← hq2]
              cases Bs.rdec (s.data.toList.drop (k + 4)) <;> simp
    · have hx : (convert 94 9 u4).run Tryz.prog wr = .ok (.string ⟨out.toArray⟩) wr := hown.text 0
      have hlt' : (s.size : Int) ≤ (k : Int) + 3 := by omega
      have hr : Bs.rdec s.data.toList = some out := by
        have hq2 := HQ.out
        have : Bs.rdec (s.data.toList.drop k) = some [] := rdec_short (by simp; omega)
        rw [this] at hq2
        rw [← hq2]; simp
      have HR := Lib.hid hr
      clear hr
      go_wp2_with fail
      refine (rsixes_calls ⟨out.toArray⟩ wr (by show out.toArray.size ≤ _; simp; omega)).mono ?_
      rintro e w1 ⟨rfl, hb1⟩
      have hx1 : (convert 94 9 u4).run Tryz.prog w1 = .ok (.string ⟨out.toArray⟩) w1 := (hown.below hb1).text 0
      go_wp2_with fail
      · rename_i h
        go_ret2
        refine ⟨?_, hb.trans (hb1.mono hb.size)⟩
        rw [HU.out, HR.out]
        have hne : Bs.sixes out ≠ s.data.toList := by rw [← ByteArray.toList_eq]; simpa using h
        simp [hne]; rfl
      · rename_i h
        go_ret2
        refine ⟨?_, hb.trans (hb1.mono hb.size)⟩
        rw [HU.out, HR.out]
        have heq : Bs.sixes out = s.data.toList := by rw [← ByteArray.toList_eq]; simpa using h
        simp [heq]; rfl
end Go.Proofs.YtgamebffdcpjaaaGreatDoor
