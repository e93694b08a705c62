/- Walks: quoted strings, as the reference reads them. -/
import Derived.Test.YtgamebffdcpjaaaGreatDoorW10
namespace Go.Proofs.YtgamebffdcpjaaaGreatDoor
open Go.RowKit
set_option maxRecDepth 100000

theorem plain_iff {c : UInt8} : Bs.plain c = true ↔ 32 ≤ (c.toNat : Int) ∧ (c.toNat : Int) ≤ 126 := by
  simp only [Bs.plain, decide_eq_true_eq]; omega

theorem drop_end (s : ByteArray) (k : Nat) (h : s.size ≤ k) : s.data.toList.drop k = [] := List.drop_eq_nil_of_le (by simp; omega)
theorem neB_yes {c d : UInt8} (h : c ≠ d) : ((c.toNat : Int) != (d.toNat : Int)) = true := by simp [bne, eqB_no h]
theorem neB_no {c d : UInt8} (h : c = d) : ((c.toNat : Int) != (d.toNat : Int)) = false := by simp [bne, eqB_yes h]

set_option maxHeartbeats 4000000 in
theorem rquoted_calls (s : ByteArray) (w : World) (hs : s.size ≤ 140737488351232) (h0 : 0 < s.size) :
    Calls Tryz.prog 78 #[.string s] w fun e w' => e = .returned (readV (Bs.quoted [] (s.data.toList.drop 1))) ∧ Below w.heap.size w w' := by
  go_enter Tryz.func78, Tryz.ntmps78
  go_wp2
  go_loopw [5, 6, 7] (fun v i _ wr => ∃ (k : Nat) (acc : Bs.Bytes), 1 ≤ k ∧ k ≤ s.size ∧ acc.length ≤ k ∧ i = .int .i64 (k : Int) ∧
    OwnB wr (w.heap.size + 1) v acc ∧ Whole wr w.heap.size 23 #[.int .u8 0, .int .i64 0, .string ⟨#[]⟩, .bool false] ∧ Below w.heap.size w wr ∧
    Bs.quoted acc (s.data.toList.drop k) = Bs.quoted [] (s.data.toList.drop 1)) (fun _ i _ _ => s.size - (intOf i).toNat)
  case atStart => exact ⟨1, [], by omega, h0, by simp, rfl, OwnB.nil _ _, Whole.new w 23 #[.int .u8 0, .int .i64 0, .string ⟨#[]⟩, .bool false], (Below.refl _ _).alloc (Nat.le_refl _) _, rfl⟩
  case round =>
    obtain ⟨k, acc, hk1, hk, hacc, rfl, hown, hwh, hb, hq⟩ := hrel
    have hc0 := hwh.cell
    have hf0 := hwh.frozen
    have hlt1 : w.heap.size < wr.heap.size := hwh.lt
    have HQ := Lib.hid hq
    clear hq
    by_cases hlt : k < s.size
    · have hb8 := s[k].toNat_lt
      have HDC := Lib.hid (drop_cons s k hlt)
      obtain ⟨i0, hi, hz0, hz1, hz2⟩ := info_parts info5
      by_cases h34 : s[k] = 34
      · have y34 : ((s[k].toNat : Int) == 34) = true := eqB_yes (d := 34) h34
        have HD := Lib.hid h34
        clear h34
        have hx : (convert 94 9 u5).run Tryz.prog wr.drew = .ok (.string ⟨acc.toArray⟩) wr.drew := hown.text 1
        go_wp2_with fail
        go_region
        go_wp2_with fail
        refine bodyPost_ret (v := readV (some (Bs.txt 3 acc, s.data.toList.drop (k + 1)))) ?_ rfl ⟨?_, ?_⟩
        · simp [results, Tryz.results78, go_sem, hc0, readV, bareV, Bs.txt]
          exact ba_mk' (Lib.extract_to_end _ _)
        · rw [← HQ.out, HDC.out, HD.out, quoted_end]
        · repeat' (with_reducible first | exact hb | exact Nat.le_refl _ | refine below_set ?_ ?_ | refine below_drew ?_)
      · have y34 : ((s[k].toNat : Int) == 34) = false := eqB_no (d := 34) h34
        by_cases h92 : s[k] = 92
        · have y92 : ((s[k].toNat : Int) == 92) = true := eqB_yes (d := 92) h92
          have HD := Lib.hid h92
          clear h92
          by_cases hl1 : k + 1 < s.size
          · have hl1' : (k : Int) + 1 < (s.size : Int) := by omega
            have hb81 := s[k + 1].toNat_lt
            have HDC1 := Lib.hid (drop_cons s (k + 1) hl1)
            by_cases x34 : s[k + 1] = 34
            · have z34 : ((s[k + 1].toNat : Int) != 34) = false := neB_no (d := 34) x34
              have zp := plain_iff.1 (show Bs.plain s[k + 1] = true by rw [x34]; decide +kernel)
              have X := Lib.hid x34
              clear x34
              go_wp2_with (at_builtin; refine wpList_append_own _ rfl _ _ 94 rfl (w.heap.size + 1) 5 i0 (.int .u8 0) 1 1 Tryz.underlying94 hi hz0 hz1 hz2 rfl (by decide) _ _ _ rfl (hown.alloc _) ⟨wr.heap.size, 0, none⟩ 1 1 [.int .u8 (s[k + 1].toNat : Int)] rfl rfl (cell_one_new _ _ _) (by simp [Value.oneCell']) (by unfold maxLen; omega) (by omega) (by simp; omega) ?_; intro v' w2 hown2 hg2 _)
              clear hc0 hf0
              refine ⟨⟨k + 1 + 1, acc ++ [s[k + 1]], by omega, by omega, by simp; omega, by rw [show (((k + 1 + 1 : Nat) : Int)) = (k : Int) + 1 + 1 from by omega], ?_, ?_, ?_, ?_⟩, by simp [intOf]; omega⟩
              · unfold OwnB; simpa [by8] using hown2
              · exact (hwh.alloc _).grown hg2 fun e => by have := (World.ownsRow.lt hown _ e.symm).1; omega
              · exact (hb.alloc hb.size _).grown hg2 (by have := hb.size; simp; omega) fun j e => by have := (World.ownsRow.lt hown _ e).1; omega
              · rw [← HQ.out, HDC.out, HDC1.out, HD.out, quoted_esc (.inl X.out)]
            · have z34 : ((s[k + 1].toNat : Int) != 34) = true := neB_yes (d := 34) x34
              by_cases x92 : s[k + 1] = 92
              · have z92 : ((s[k + 1].toNat : Int) != 92) = false := neB_no (d := 92) x92
                have zp := plain_iff.1 (show Bs.plain s[k + 1] = true by rw [x92]; decide +kernel)
                have X := Lib.hid x92
                clear x92
                go_wp2_with (at_builtin; refine wpList_append_own _ rfl _ _ 94 rfl (w.heap.size + 1) 5 i0 (.int .u8 0) 1 1 Tryz.underlying94 hi hz0 hz1 hz2 rfl (by decide) _ _ _ rfl (hown.alloc _) ⟨wr.heap.size, 0, none⟩ 1 1 [.int .u8 (s[k + 1].toNat : Int)] rfl rfl (cell_one_new _ _ _) (by simp [Value.oneCell']) (by unfold maxLen; omega) (by omega) (by simp; omega) ?_; intro v' w2 hown2 hg2 _)
                clear hc0 hf0
                refine ⟨⟨k + 1 + 1, acc ++ [s[k + 1]], by omega, by omega, by simp; omega, by rw [show (((k + 1 + 1 : Nat) : Int)) = (k : Int) + 1 + 1 from by omega], ?_, ?_, ?_, ?_⟩, by simp [intOf]; omega⟩
                · unfold OwnB; simpa [by8] using hown2
                · exact (hwh.alloc _).grown hg2 fun e => by have := (World.ownsRow.lt hown _ e.symm).1; omega
                · exact (hb.alloc hb.size _).grown hg2 (by have := hb.size; simp; omega) fun j e => by have := (World.ownsRow.lt hown _ e).1; omega
                · rw [← HQ.out, HDC.out, HDC1.out, HD.out, quoted_esc (.inr X.out)]
              · have z92 : ((s[k + 1].toNat : Int) != 92) = true := neB_yes (d := 92) x92
                go_wp2_with fail
                refine (none_calls _).mono ?_
                rintro e w1 ⟨rfl, hb1⟩
                have hc1 : ∀ o, w1.cell? ⟨w.heap.size, o, none⟩ = _ := fun o => hb1.cell (p := ⟨w.heap.size, o, none⟩) hlt1
                have hf1 : ∀ o, w1.frozen? ⟨w.heap.size, o, none⟩ = _ := fun o => hb1.frozen (p := ⟨w.heap.size, o, none⟩) hlt1
                have hb2 : Below w.heap.size w w1 := hb.trans (hb1.mono hb.size)
                have hb3 : w.heap.size < w1.heap.size := Nat.lt_of_lt_of_le hlt1 hb1.size
                clear hb1
                simp only [readV]
                go_wp2_with fail
                exact bodyPost_ret (v := readV none) (by simp [results, Tryz.results78, go_sem, hc0, hc1, readV]) rfl ⟨by rw [← HQ.out, HDC.out, HDC1.out, HD.out, quoted_esc_no (by simp [x34, x92])], by (repeat' (with_reducible first | exact hb2 | exact Nat.le_refl _ | refine below_set ?_ ?_ | refine below_drew ?_))⟩
          · have hl1' : (s.size : Int) ≤ (k : Int) + 1 := by omega
            have HNIL := Lib.hid (drop_end s (k + 1) (by omega))
            go_wp2_with fail
            refine (none_calls _).mono ?_
            rintro e w1 ⟨rfl, hb1⟩
            have hc1 : ∀ o, w1.cell? ⟨w.heap.size, o, none⟩ = _ := fun o => hb1.cell (p := ⟨w.heap.size, o, none⟩) hlt1
            have hf1 : ∀ o, w1.frozen? ⟨w.heap.size, o, none⟩ = _ := fun o => hb1.frozen (p := ⟨w.heap.size, o, none⟩) hlt1
            have hb2 : Below w.heap.size w w1 := hb.trans (hb1.mono hb.size)
            have hb3 : w.heap.size < w1.heap.size := Nat.lt_of_lt_of_le hlt1 hb1.size
            clear hb1
            simp only [readV]
            go_wp2_with fail
            exact bodyPost_ret (v := readV none) (by simp [results, Tryz.results78, go_sem, hc0, hc1, readV]) rfl ⟨by rw [← HQ.out, HDC.out, HNIL.out, HD.out, quoted_esc_end], by (repeat' (with_reducible first | exact hb2 | exact Nat.le_refl _ | refine below_set ?_ ?_ | refine below_drew ?_))⟩
        · have y92 : ((s[k].toNat : Int) == 92) = false := eqB_no (d := 92) h92
          by_cases hp : Bs.plain s[k] = true
          · obtain ⟨hp1, hp2⟩ := plain_iff.1 hp
            go_wp2_with (at_builtin; refine wpList_append_own _ rfl _ _ 94 rfl (w.heap.size + 1) 5 i0 (.int .u8 0) 1 1 Tryz.underlying94 hi hz0 hz1 hz2 rfl (by decide) _ _ _ rfl (hown.alloc _) ⟨wr.heap.size, 0, none⟩ 1 1 [.int .u8 (s[k].toNat : Int)] rfl rfl (cell_one_new _ _ _) (by simp [Value.oneCell']) (by unfold maxLen; omega) (by omega) (by simp; omega) ?_; intro v' w2 hown2 hg2 _)
            clear hc0 hf0
            refine ⟨⟨k + 1, acc ++ [s[k]], by omega, by omega, by simp; omega, by rw [show (((k + 1 : Nat) : Int)) = (k : Int) + 1 from by omega], ?_, ?_, ?_, ?_⟩, by simp [intOf]; omega⟩
            · unfold OwnB; simpa [by8] using hown2
            · exact (hwh.alloc _).grown hg2 fun e => by have := (World.ownsRow.lt hown _ e.symm).1; omega
            · exact (hb.alloc hb.size _).grown hg2 (by have := hb.size; simp; omega) fun j e => by have := (World.ownsRow.lt hown _ e).1; omega
            · rw [← HQ.out, HDC.out, quoted_more hp h34 h92]
          · have hp' : ¬ (32 ≤ (s[k].toNat : Int) ∧ (s[k].toNat : Int) ≤ 126) := fun h => hp (plain_iff.2 h)
            by_cases hp3 : (s[k].toNat : Int) < 32
            · go_wp2_with fail
              refine (none_calls _).mono ?_
              rintro e w1 ⟨rfl, hb1⟩
              have hc1 : ∀ o, w1.cell? ⟨w.heap.size, o, none⟩ = _ := fun o => hb1.cell (p := ⟨w.heap.size, o, none⟩) hlt1
              have hf1 : ∀ o, w1.frozen? ⟨w.heap.size, o, none⟩ = _ := fun o => hb1.frozen (p := ⟨w.heap.size, o, none⟩) hlt1
              have hb2 : Below w.heap.size w w1 := hb.trans (hb1.mono hb.size)
              have hb3 : w.heap.size < w1.heap.size := Nat.lt_of_lt_of_le hlt1 hb1.size
              clear hb1
              simp only [readV]
              go_wp2_with fail
              exact bodyPost_ret (v := readV none) (by simp [results, Tryz.results78, go_sem, hc0, hc1, readV]) rfl ⟨by rw [← HQ.out, HDC.out, quoted_no (by simpa using hp)], by (repeat' (with_reducible first | exact hb2 | exact Nat.le_refl _ | refine below_set ?_ ?_ | refine below_drew ?_))⟩
            · have hp4 : 126 < (s[k].toNat : Int) := by omega
              go_wp2_with fail
              refine (none_calls _).mono ?_
              rintro e w1 ⟨rfl, hb1⟩
              have hc1 : ∀ o, w1.cell? ⟨w.heap.size, o, none⟩ = _ := fun o => hb1.cell (p := ⟨w.heap.size, o, none⟩) hlt1
              have hf1 : ∀ o, w1.frozen? ⟨w.heap.size, o, none⟩ = _ := fun o => hb1.frozen (p := ⟨w.heap.size, o, none⟩) hlt1
              have hb2 : Below w.heap.size w w1 := hb.trans (hb1.mono hb.size)
              have hb3 : w.heap.size < w1.heap.size := Nat.lt_of_lt_of_le hlt1 hb1.size
              clear hb1
              simp only [readV]
              go_wp2_with fail
              exact bodyPost_ret (v := readV none) (by simp [results, Tryz.results78, go_sem, hc0, hc1, readV]) rfl ⟨by rw [← HQ.out, HDC.out, quoted_no (by simpa using hp)], by (repeat' (with_reducible first | exact hb2 | exact Nat.le_refl _ | refine below_set ?_ ?_ | refine below_drew ?_))⟩
    · have hl : (s.size : Int) ≤ (k : Int) := by omega
      have HNIL := Lib.hid (drop_end s (k) (by omega))
      go_wp2_with fail
      refine (none_calls _).mono ?_
      rintro e w1 ⟨rfl, hb1⟩
      have hc1 : ∀ o, w1.cell? ⟨w.heap.size, o, none⟩ = _ := fun o => hb1.cell (p := ⟨w.heap.size, o, none⟩) hlt1
      have hf1 : ∀ o, w1.frozen? ⟨w.heap.size, o, none⟩ = _ := fun o => hb1.frozen (p := ⟨w.heap.size, o, none⟩) hlt1
      have hb2 : Below w.heap.size w w1 := hb.trans (hb1.mono hb.size)
      have hb3 : w.heap.size < w1.heap.size := Nat.lt_of_lt_of_le hlt1 hb1.size
      clear hb1
      simp only [readV]
      go_wp2_with fail
      exact bodyPost_ret (v := readV none) (by simp [results, Tryz.results78, go_sem, hc0, hc1, readV]) rfl ⟨by rw [← HQ.out, HNIL.out]; rfl, by (repeat' (with_reducible first | exact hb2 | exact Nat.le_refl _ | refine below_set ?_ ?_ | refine below_drew ?_))⟩

end Go.Proofs.YtgamebffdcpjaaaGreatDoor
