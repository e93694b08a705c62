/- Walks: an item's text, as the reference tells it (strings; all). -/
import Derived.Test.YtgamebffdcpjaaaGreatDoorW20
namespace Go.Proofs.YtgamebffdcpjaaaGreatDoor
open Go.RowKit
set_option maxRecDepth 100000

theorem OwnB.one {B : Nat} (w : World) (c : UInt8) (hb : B ≤ w.heap.size) : OwnB (w.alloc (.cells #[.int .u8 (c.toNat : Int)] 5)) B (.slice (some ⟨w.heap.size, 0, none⟩) 1 1) [c] :=
  World.ownsRow_lit w #[.int .u8 (c.toNat : Int)] 1 hb (by unfold maxLen; omega) rfl

theorem quote_esc {c : UInt8} (h : c = 34 ∨ c = 92) (t : Bs.Bytes) : Bs.quote (c :: t) = 92 :: c :: Bs.quote t := by rw [Bs.quote, if_pos h]
theorem quote_more {c : UInt8} (h : ¬ (c = 34 ∨ c = 92)) (t : Bs.Bytes) : Bs.quote (c :: t) = c :: Bs.quote t := by rw [Bs.quote, if_neg h]

set_option maxHeartbeats 4000000 in
theorem rprint_text (i : Int) (s : ByteArray) (y : Bool) (w : World) (hs : s.size ≤ 4000000000) (hr : Bs.right ⟨3, i, s.data.toList, y⟩ = true) :
    Calls Tryz.prog 15 #[bV 3 i s y] w fun e w' => e = .returned (printV ⟨3, i, s.data.toList, y⟩) ∧ Below w.heap.size w w' := by
  obtain ⟨T0, hT⟩ : ∃ T0 : Bs.Bytes, T0 = [34] ++ Bs.quote s.data.toList := ⟨_, rfl⟩
  rw [printV_yes hr (t := T0 ++ [34]) (by rw [hT]; rfl)]
  obtain rfl : i = 0 := by
    simp [Bs.right] at hr; exact hr.1.1
  go_enter Tryz.func15, Tryz.ntmps15
  go_wp2_with fail
  refine (rright_calls 3 0 s y _ (by omega)).mono ?_
  rintro e w1 ⟨rfl, hb1⟩
  rw [hr]
  have hlt0 : w.heap.size < (w.alloc (.cells #[.int .u8 3, .int .i64 0, .string s, .bool y] 23)).heap.size := box_lt w _
  have hwh : Whole w1 w.heap.size 23 #[.int .u8 3, .int .i64 0, .string s, .bool y] := (Whole.new w 23 _).below hb1 hlt0
  have hb2 : Below w.heap.size w w1 := ((Below.refl w.heap.size w).alloc (Nat.le_refl _) _).trans (hb1.mono (Nat.le_of_lt hlt0))
  have hc1 := hwh.cell
  have hf1 := hwh.frozen
  clear hb1
  go_wp2_with fail
  go_region
  go_wp2_with fail
  go_loopw [7, 8] (fun v i wr => ∃ (k : Nat) (acc : Bs.Bytes), k ≤ s.size ∧ acc.length ≤ 2 * k + 1 ∧ i = .int .i64 (k : Int) ∧
    OwnB wr (w.heap.size + 1) v acc ∧ Whole wr w.heap.size 23 #[.int .u8 3, .int .i64 0, .string s, .bool y] ∧ Below w.heap.size w wr ∧
    acc ++ Bs.quote (s.data.toList.drop k) = T0) (fun _ i _ => s.size - (intOf i).toNat)
  case atStart =>
    refine ⟨0, [34], by omega, by simp, rfl, OwnB.one _ _ ?_, (hwh.drew).alloc _, (below_drew hb2).alloc hb2.size _, ?_⟩
    · exact hwh.lt
    · rw [hT]; rfl
  case round =>
    clear hc1 hf1
    obtain ⟨k, acc, hk, hacc, rfl, hown, hwh2, hb, hq⟩ := hrel
    have hc2 := hwh2.cell
    have hf2 := hwh2.frozen
    have hlt1 : w.heap.size < wr.heap.size := hwh2.lt
    have HQ := Lib.hid hq
    clear hq hT
    obtain ⟨i0, hi, hz0, hz1, hz2⟩ := info_parts info5
    by_cases hlt : k < s.size
    · have hb8 := s[k].toNat_lt
      have HDC := Lib.hid (drop_cons s k hlt)
      by_cases h34 : s[k] = 34
      · have y34 : ((s[k].toNat : Int) == 34) = true := eqB_yes (d := 34) h34
        have E := Lib.hid (quote_esc (c := s[k]) (.inl h34))
        clear h34
        go_wp2_with (first | (at_builtin; refine wpList_append_own _ rfl _ _ 94 rfl (w.heap.size + 1) 5 i0 (.int .u8 0) 1 1 Tryz.underlying94 hi hz0 hz1 hz2 rfl (by decide) _ _ _ rfl (hown.alloc _) ⟨wr.heap.size, 0, none⟩ 1 1 [.int .u8 92] rfl rfl (cell_one_new _ _ _) (by simp [Value.oneCell']) (by unfold maxLen; omega) (by omega) (by simp; omega) ?_; intro v2 w2 hown2 hg2 _; have hwh3 : Whole w2 w.heap.size 23 #[.int .u8 3, .int .i64 0, .string s, .bool y] := (hwh2.alloc _).grown hg2 (fun e => by have := (World.ownsRow.lt hown _ e.symm).1; omega); have hb3 : Below w.heap.size w w2 := (hb.alloc hb.size _).grown hg2 (by have := hb.size; simp; omega) (fun j e => by have := (World.ownsRow.lt hown _ e).1; omega); have hc3 := hwh3.cell; have hf3 := hwh3.frozen; have hlt2 : w.heap.size < w2.heap.size := hwh3.lt) | (at_builtin; refine wpList_append_own _ rfl _ _ 94 rfl (w.heap.size + 1) 5 i0 (.int .u8 0) 1 1 Tryz.underlying94 hi hz0 hz1 hz2 rfl (by decide) _ _ _ rfl (hown2.alloc _) ⟨w2.heap.size, 0, none⟩ 1 1 [.int .u8 (s[k].toNat : Int)] rfl rfl (cell_one_new _ _ _) (by simp [Value.oneCell']) (by unfold maxLen; omega) (by omega) (by simp; omega) ?_; intro v3 w3 hown3 hg3 _))
        clear hc2 hf2
        clear hc3 hf3
        refine ⟨⟨k + 1, acc ++ [92, s[k]], by omega, by simp; omega, by rw [show (((k + 1 : Nat) : Int)) = (k : Int) + 1 from by omega], ?_, ?_, ?_, ?_⟩, by simp [intOf]; omega⟩
        · unfold OwnB; simpa [by8] using hown3
        · exact (hwh3.alloc _).grown hg3 fun e => by have := (World.ownsRow.lt hown2 _ e.symm).1; omega
        · exact (hb3.alloc hb3.size _).grown hg3 (by have := hb3.size; simp; omega) fun j e => by have := (World.ownsRow.lt hown2 _ e).1; omega
        · rw [← HQ.out, HDC.out, E.out]; simp
      · have y34 : ((s[k].toNat : Int) == 34) = false := eqB_no (d := 34) h34
        by_cases h92 : s[k] = 92
        · have y92 : ((s[k].toNat : Int) == 92) = true := eqB_yes (d := 92) h92
          have E := Lib.hid (quote_esc (c := s[k]) (.inr h92))
          clear h34 h92
          go_wp2_with (first | (at_builtin; refine wpList_append_own _ rfl _ _ 94 rfl (w.heap.size + 1) 5 i0 (.int .u8 0) 1 1 Tryz.underlying94 hi hz0 hz1 hz2 rfl (by decide) _ _ _ rfl (hown.alloc _) ⟨wr.heap.size, 0, none⟩ 1 1 [.int .u8 92] rfl rfl (cell_one_new _ _ _) (by simp [Value.oneCell']) (by unfold maxLen; omega) (by omega) (by simp; omega) ?_; intro v2 w2 hown2 hg2 _; have hwh3 : Whole w2 w.heap.size 23 #[.int .u8 3, .int .i64 0, .string s, .bool y] := (hwh2.alloc _).grown hg2 (fun e => by have := (World.ownsRow.lt hown _ e.symm).1; omega); have hb3 : Below w.heap.size w w2 := (hb.alloc hb.size _).grown hg2 (by have := hb.size; simp; omega) (fun j e => by have := (World.ownsRow.lt hown _ e).1; omega); have hc3 := hwh3.cell; have hf3 := hwh3.frozen; have hlt2 : w.heap.size < w2.heap.size := hwh3.lt) | (at_builtin; refine wpList_append_own _ rfl _ _ 94 rfl (w.heap.size + 1) 5 i0 (.int .u8 0) 1 1 Tryz.underlying94 hi hz0 hz1 hz2 rfl (by decide) _ _ _ rfl (hown2.alloc _) ⟨w2.heap.size, 0, none⟩ 1 1 [.int .u8 (s[k].toNat : Int)] rfl rfl (cell_one_new _ _ _) (by simp [Value.oneCell']) (by unfold maxLen; omega) (by omega) (by simp; omega) ?_; intro v3 w3 hown3 hg3 _))
          clear hc2 hf2
          clear hc3 hf3
          refine ⟨⟨k + 1, acc ++ [92, s[k]], by omega, by simp; omega, by rw [show (((k + 1 : Nat) : Int)) = (k : Int) + 1 from by omega], ?_, ?_, ?_, ?_⟩, by simp [intOf]; omega⟩
          · unfold OwnB; simpa [by8] using hown3
          · exact (hwh3.alloc _).grown hg3 fun e => by have := (World.ownsRow.lt hown2 _ e.symm).1; omega
          · exact (hb3.alloc hb3.size _).grown hg3 (by have := hb3.size; simp; omega) fun j e => by have := (World.ownsRow.lt hown2 _ e).1; omega
          · rw [← HQ.out, HDC.out, E.out]; simp
        · have y92 : ((s[k].toNat : Int) == 92) = false := eqB_no (d := 92) h92
          have E := Lib.hid (quote_more (c := s[k]) (by simp [h34, h92]))
          clear h34 h92
          go_wp2_with (at_builtin; refine wpList_append_own _ rfl _ _ 94 rfl (w.heap.size + 1) 5 i0 (.int .u8 0) 1 1 Tryz.underlying94 hi hz0 hz1 hz2 rfl (by decide) _ _ _ rfl (hown.alloc _) ⟨wr.heap.size, 0, none⟩ 1 1 [.int .u8 (s[k].toNat : Int)] rfl rfl (cell_one_new _ _ _) (by simp [Value.oneCell']) (by unfold maxLen; omega) (by omega) (by simp; omega) ?_; intro v2 w2 hown2 hg2 _)
          clear hc2 hf2
          refine ⟨⟨k + 1, acc ++ [s[k]], by omega, by simp; omega, by rw [show (((k + 1 : Nat) : Int)) = (k : Int) + 1 from by omega], ?_, ?_, ?_, ?_⟩, by simp [intOf]; omega⟩
          · unfold OwnB; simpa [by8] using hown2
          · exact (hwh2.alloc _).grown hg2 fun e => by have := (World.ownsRow.lt hown _ e.symm).1; omega
          · exact (hb.alloc hb.size _).grown hg2 (by have := hb.size; simp; omega) fun j e => by have := (World.ownsRow.lt hown _ e).1; omega
          · rw [← HQ.out, HDC.out, E.out]; simp
    · have HNIL := Lib.hid (drop_end s (k) (by omega))
      go_wp2_with (at_builtin; refine wpList_append_own _ rfl _ _ 94 rfl (w.heap.size + 1) 5 i0 (.int .u8 0) 1 1 Tryz.underlying94 hi hz0 hz1 hz2 rfl (by decide) _ _ _ rfl (hown.alloc _) ⟨wr.heap.size, 0, none⟩ 1 1 [.int .u8 34] rfl rfl (cell_one_new _ _ _) (by simp [Value.oneCell']) (by unfold maxLen; omega) (by omega) (by simp; omega) ?_; intro v2 w2 hown2 hg2 _; have ho : OwnB w2 (w.heap.size + 1) v2 (acc ++ [34]) := (by unfold OwnB; simpa [by8] using hown2); have hx : (convert 94 9 v2).run Tryz.prog w2 = .ok (.string ⟨(acc ++ [34]).toArray⟩) w2 := ho.text 0; have hg3 := hg2)
      refine bodyPost_ret (v := .tuple #[S (T0 ++ [34]), .int .i64 0]) ?_ rfl ⟨rfl, ?_⟩
      · simp [results, Tryz.results15, go_sem]
        rw [← HQ.out, HNIL.out]; simp [Bs.quote]
      · exact (hb.alloc hb.size _).grown hg3 (by have := hb.size; simp; omega) fun j e => by have := (World.ownsRow.lt hown _ e).1; omega

theorem rprint_calls (k : Nat) (i : Int) (s : ByteArray) (y : Bool) (w : World) (hs : s.size ≤ 4000000000) :
    Calls Tryz.prog 15 #[bV k i s y] w fun e w' => e = .returned (printV ⟨k, i, s.data.toList, y⟩) ∧ Below w.heap.size w w' := by
  cases hr : Bs.right ⟨k, i, s.data.toList, y⟩ with
  | false => exact rprint_no k i s y w (by omega) hr
  | true =>
    by_cases h1 : k = 1
    · subst h1; exact rprint_int i s y w (by omega) hr
    by_cases h2 : k = 2
    · subst h2
      obtain ⟨g1, g2⟩ := num_bound (.inr rfl) hr
      by_cases hi : i < 0
      · obtain ⟨n, hn⟩ : ∃ n : Nat, n = i.natAbs := ⟨_, rfl⟩
        obtain rfl : i = -(n : Int) := by omega
        exact rprint_dec_neg n (by omega) (by omega) s y w (by omega) hr
      · obtain ⟨n, rfl⟩ : ∃ n : Nat, i = (n : Int) := ⟨i.toNat, by omega⟩
        exact rprint_dec_pos n (by omega) s y w (by omega) hr
    by_cases h3 : k = 3
    · subst h3; exact rprint_text i s y w hs hr
    by_cases h4 : k = 4
    · subst h4; exact rprint_tok i s y w (by omega) hr
    by_cases h5 : k = 5
    · subst h5; exact rprint_bytes i s y w hs hr
    by_cases h6 : k = 6
    · subst h6; exact rprint_yes i s y w hs hr
    rw [right_no h1 h2 h3 h4 h5 h6] at hr; cases hr
end Go.Proofs.YtgamebffdcpjaaaGreatDoor
