/- Walks: quoted strings, as package bare reads them. -/
import Derived.Test.YtgamebffdcpjaaaGreatDoorM1
namespace Go.Proofs.YtgamebffdcpjaaaGreatDoor
open Go.RowKit
set_option maxRecDepth 100000

/-- What holds at every jump back. -/
def QuoteAt (s : ByteArray) (w : World) (a : Act) (w' : World) : Prop :=
  ∃ (k : Nat) (acc : Bs.Bytes) (v : Value) (u7 u8 u9 u10 u11 u12 u13 u14 u15 u16 u17 u18 u19 u20 u21 u22 u23 u24 u25 u26 u27 u28 u29 u30 u31 u32 u33 u34 u35 u36 u37 u38 u39 u40 u41 u42 u43 u44 u45 u46 u47 u48 u49 u50 u51 u52 u53 u54 u55 u56 u57 u58 u59 u60 u61 : Value),
    a = { tmps := #[.string s, undef, .pointer (some ⟨w.heap.size, 0, none⟩), .string ⟨#[]⟩, .int .i64 0, v, .int .i64 (k : Int), u7, u8, u9, u10, u11, u12, u13, u14, u15, u16, u17, u18, u19, u20, u21, u22, u23, u24, u25, u26, u27, u28, u29, u30, u31, u32, u33, u34, u35, u36, u37, u38, u39, u40, u41, u42, u43, u44, u45, u46, u47, u48, u49, u50, u51, u52, u53, u54, u55, u56, u57, u58, u59, u60, u61], defers := [] } ∧
    1 ≤ k ∧ k ≤ s.size ∧ acc.length ≤ k ∧
    OwnB w' (w.heap.size + 1) v acc ∧ Whole w' w.heap.size 23 #[.int .u8 0, .int .i64 0, .string ⟨#[]⟩, .bool false] ∧ Below w.heap.size w w' ∧
    Bs.quoted acc (s.data.toList.drop k) = Bs.quoted [] (s.data.toList.drop 1)

theorem drop_cons (s : ByteArray) (k : Nat) (h : k < s.size) : s.data.toList.drop k = s[k] :: s.data.toList.drop (k + 1) := by
  rw [List.drop_eq_getElem_cons (by simpa using h)]; rfl

theorem quoted_no {acc : Bs.Bytes} {c : UInt8} {t : Bs.Bytes} (h : (!Bs.plain c) = true) : Bs.quoted acc (c :: t) = none := by
  rw [Bs.quoted.eq_def]; simp only [h, if_true]
theorem quoted_end {acc : Bs.Bytes} {t : Bs.Bytes} : Bs.quoted acc (34 :: t) = some (Bs.txt 3 acc, t) := by
  rw [Bs.quoted.eq_def]; simp only []; rw [if_neg (by decide +kernel), if_pos trivial]
theorem quoted_esc {acc : Bs.Bytes} {c : UInt8} {t : Bs.Bytes} (h : c = 34 ∨ c = 92) : Bs.quoted acc (92 :: c :: t) = Bs.quoted (acc ++ [c]) t := by
  rw [Bs.quoted.eq_def]; simp only []; rw [if_neg (by decide +kernel), if_neg (by decide), if_pos trivial, if_pos h]
theorem quoted_esc_no {acc : Bs.Bytes} {c : UInt8} {t : Bs.Bytes} (h : ¬ (c = 34 ∨ c = 92)) : Bs.quoted acc (92 :: c :: t) = none := by
  rw [Bs.quoted.eq_def]; simp only []; rw [if_neg (by decide +kernel), if_neg (by decide), if_pos trivial, if_neg h]
theorem quoted_esc_end {acc : Bs.Bytes} : Bs.quoted acc [92] = none := by
  rw [Bs.quoted.eq_def]; simp only []; rw [if_neg (by decide +kernel), if_neg (by decide), if_pos trivial]
theorem quoted_more {acc : Bs.Bytes} {c : UInt8} {t : Bs.Bytes} (h : Bs.plain c = true) (h1 : c ≠ 34) (h2 : c ≠ 92) : Bs.quoted acc (c :: t) = Bs.quoted (acc ++ [c]) t := by
  rw [Bs.quoted.eq_def]; simp only []; rw [if_neg (by simp [h]), if_neg h1, if_neg h2]

set_option maxHeartbeats 2000000 in
theorem quoted_calls (s : ByteArray) (w : World) (hs : s.size ≤ 140737488351232) (h0 : 0 < s.size) :
    Calls Tryz.prog 72 #[.string s] w fun e w' => e = .returned (readV (Bs.quoted [] (s.data.toList.drop 1))) ∧ Below w.heap.size w w' := by
  go_enter Tryz.func72, Tryz.ntmps72
  go_wp2
  refine scope_jumps 0 (QuoteAt s w) (fun a' _ => s.size - (intOf (a'.tmps.getD 6 undef)).toNat) rfl ?_ ?_
  · intro hrest
    have HR := Lib.hid hrest
    clear hrest
    go_wp2
    go_step3
    rename_i hK
    refine hK _ _ (HR.out _ _ ?_)
    clear hK
    refine ⟨1, [], .slice none 0 0, ?_⟩
    iterate 55 apply Exists.intro
    exact ⟨rfl, Nat.le_refl _, h0, Nat.zero_le _, (OwnB.nil _ _), Whole.new w 23 #[.int .u8 0, .int .i64 0, .string ⟨#[]⟩, .bool false], (Below.refl _ _).alloc (Nat.le_refl _) _, rfl⟩
  · rintro a' w1 ⟨k, acc, v, u7, u8, u9, u10, u11, u12, u13, u14, u15, u16, u17, u18, u19, u20, u21, u22, u23, u24, u25, u26, u27, u28, u29, u30, u31, u32, u33, u34, u35, u36, u37, u38, u39, u40, u41, u42, u43, u44, u45, u46, u47, u48, u49, u50, u51, u52, u53, u54, u55, u56, u57, u58, u59, u60, u61, rfl, hk1, hk, hacc, hown, hwh, hb, hq⟩
    by_cases hlt : k < s.size
    · have hc1 := hwh.cell
      have hf1 := hwh.frozen
      have hlt1 : w.heap.size < w1.heap.size := hwh.lt
      have hlt2 : (k : Int) < (s.size : Int) := by omega
      by_cases hp : Bs.plain s[k] = true
      · have hp' : (!Bs.plain s[k]) = false := by simp [hp]
        by_cases h34 : s[k] = 34
        · have e34 : ((s[k].toNat : Int) == 34) = true := (beqU8 (a := s[k]) (b := 34)).2 h34
          have H34 := Lib.hid h34
          clear h34
          have hx : (convert 94 9 v).run Tryz.prog w1.drew = .ok (.string ⟨acc.toArray⟩) w1.drew := hown.text 1
          go_wp2_with (first | (go_at_call 136; refine (plain_calls _ _).mono ?_; rintro e w' ⟨rfl, rfl⟩))
          go_region
          go_wp2
          simp only [Exit.jump]
          refine bodyPost_ret (v := .tuple #[.agg #[.int .u8 3, .int .i64 0, S acc, .bool false], S (s.data.toList.drop (k + 1)), .int .i64 0]) ?_ rfl ⟨?_, ?_⟩
          · simp [results, Tryz.results72, go_sem, hc1]
            exact ba_mk' (Lib.extract_to_end _ _)
          · rw [← hq, drop_cons s k hlt, H34.out, quoted_end]; rfl
          · repeat' (with_reducible first | exact hb | exact Nat.le_refl _ | refine below_set ?_ ?_ | refine below_drew ?_)
        · have e34 : ((s[k].toNat : Int) == 34) = false := (bneU8 (a := s[k]) (b := 34)).2 h34
          by_cases h92 : s[k] = 92
          · have e92 : ((s[k].toNat : Int) == 92) = true := (beqU8 (a := s[k]) (b := 92)).2 h92
            have H92 := Lib.hid h92
            clear h92
            have hb8 := s[k].toNat_lt
            by_cases hl1 : k + 1 < s.size
            · have hl1' : (k : Int) + 1 < (s.size : Int) := by omega
              have hb81 := s[k + 1].toNat_lt
              obtain ⟨i0, hi, hz0, hz1, hz2⟩ := info_parts info5
              by_cases x34 : s[k + 1] = 34
              · have y34 : ((s[k + 1].toNat : Int) != 34) = false := by
                  have h : ((s[k + 1].toNat : Int) == 34) = true := (beqU8 (a := s[k + 1]) (b := 34)).2 x34
                  simp [bne, h]
                have X34 := Lib.hid x34
                clear x34
                go_wp2_with (first | (go_at_call 136; refine (plain_calls _ _).mono ?_; rintro e w' ⟨rfl, rfl⟩) | (at_builtin; refine wpList_append_own _ rfl _ _ 94 rfl (w.heap.size + 1) 5 i0 (.int .u8 0) 1 1 Tryz.underlying94 hi hz0 hz1 hz2 rfl (by decide) _ _ _ rfl (hown.alloc _) ⟨w1.heap.size, 0, none⟩ 1 1 [.int .u8 (s[k + 1].toNat : Int)] rfl rfl (cell_one_new _ _ _) (by simp [Value.oneCell']) (by unfold maxLen; omega) (by omega) (by simp; omega) ?_; intro v' w2 hown2 hg2 _))
                clear hc1 hf1
                go_step3
                refine ⟨rfl, ⟨k + 1 + 1, acc ++ [s[k + 1]], v', ?_⟩, ?_⟩
                · iterate 55 apply Exists.intro
                  refine ⟨by rw [show (((k + 1 + 1 : Nat) : Int)) = (k : Int) + 1 + 1 from by omega], by omega, by omega, by simp; omega, ?_, ?_, ?_, ?_⟩
                  · unfold OwnB; simpa [by8] using hown2
                  · exact (hwh.alloc _).grown hg2 fun e => by have := (World.ownsRow.lt hown _ e.symm).1; omega
                  · exact (hb.alloc hb.size _).grown hg2 (by have := hb.size; simp; omega) fun j e => by have := (World.ownsRow.lt hown _ e).1; omega
                  · rw [← hq, drop_cons s k hlt, drop_cons s (k + 1) hl1, H92.out, quoted_esc (.inl X34.out)]
                · simp [intOf]; omega
              · have y34 : ((s[k + 1].toNat : Int) != 34) = true := by
                  have h : ((s[k + 1].toNat : Int) == 34) = false := (bneU8 (a := s[k + 1]) (b := 34)).2 x34
                  simp [bne, h]
                by_cases x92 : s[k + 1] = 92
                · have y92 : ((s[k + 1].toNat : Int) != 92) = false := by
                    have h : ((s[k + 1].toNat : Int) == 92) = true := (beqU8 (a := s[k + 1]) (b := 92)).2 x92
                    simp [bne, h]
                  have X92 := Lib.hid x92
                  clear x92
                  go_wp2_with (first | (go_at_call 136; refine (plain_calls _ _).mono ?_; rintro e w' ⟨rfl, rfl⟩) | (at_builtin; refine wpList_append_own _ rfl _ _ 94 rfl (w.heap.size + 1) 5 i0 (.int .u8 0) 1 1 Tryz.underlying94 hi hz0 hz1 hz2 rfl (by decide) _ _ _ rfl (hown.alloc _) ⟨w1.heap.size, 0, none⟩ 1 1 [.int .u8 (s[k + 1].toNat : Int)] rfl rfl (cell_one_new _ _ _) (by simp [Value.oneCell']) (by unfold maxLen; omega) (by omega) (by simp; omega) ?_; intro v' w2 hown2 hg2 _))
                  clear hc1 hf1
                  go_step3
                  refine ⟨rfl, ⟨k + 1 + 1, acc ++ [s[k + 1]], v', ?_⟩, ?_⟩
                  · iterate 55 apply Exists.intro
                    refine ⟨by rw [show (((k + 1 + 1 : Nat) : Int)) = (k : Int) + 1 + 1 from by omega], by omega, by omega, by simp; omega, ?_, ?_, ?_, ?_⟩
                    · unfold OwnB; simpa [by8] using hown2
                    · exact (hwh.alloc _).grown hg2 fun e => by have := (World.ownsRow.lt hown _ e.symm).1; omega
                    · exact (hb.alloc hb.size _).grown hg2 (by have := hb.size; simp; omega) fun j e => by have := (World.ownsRow.lt hown _ e).1; omega
                    · rw [← hq, drop_cons s k hlt, drop_cons s (k + 1) hl1, H92.out, quoted_esc (.inr X92.out)]
                  · simp [intOf]; omega
                · have y92 : ((s[k + 1].toNat : Int) != 92) = true := by
                    have h : ((s[k + 1].toNat : Int) == 92) = false := (bneU8 (a := s[k + 1]) (b := 92)).2 x92
                    simp [bne, h]
                  go_wp2_with (first | (go_at_call 136; refine (plain_calls _ _).mono ?_; rintro e w' ⟨rfl, rfl⟩))
                  simp only [Exit.jump]
                  refine bodyPost_ret (v := readV none) (by simp [results, Tryz.results72, go_sem, hc1, readV]) rfl ⟨?_, ?_⟩
                  · rw [← hq, drop_cons s k hlt, drop_cons s (k + 1) hl1, H92.out, quoted_esc_no (by simp [x34, x92])]
                  · repeat' (with_reducible first | exact hb | exact Nat.le_refl _ | refine below_set ?_ ?_ | refine below_drew ?_)
            · have hl1' : (s.size : Int) ≤ (k : Int) + 1 := by omega
              go_wp2_with (first | (go_at_call 136; refine (plain_calls _ _).mono ?_; rintro e w' ⟨rfl, rfl⟩))
              simp only [Exit.jump]
              refine bodyPost_ret (v := readV none) (by simp [results, Tryz.results72, go_sem, hc1, readV]) rfl ⟨?_, ?_⟩
              · rw [← hq, drop_cons s k hlt, List.drop_eq_nil_of_le (by simp; omega), H92.out, quoted_esc_end]
              · repeat' (with_reducible first | exact hb | exact Nat.le_refl _ | refine below_set ?_ ?_ | refine below_drew ?_)
          · have e92 : ((s[k].toNat : Int) == 92) = false := (bneU8 (a := s[k]) (b := 92)).2 h92
            have hb8 := s[k].toNat_lt
            obtain ⟨i0, hi, hz0, hz1, hz2⟩ := info_parts info5
            go_wp2_with (first | (go_at_call 136; refine (plain_calls _ _).mono ?_; rintro e w' ⟨rfl, rfl⟩) | (at_builtin; refine wpList_append_own _ rfl _ _ 94 rfl (w.heap.size + 1) 5 i0 (.int .u8 0) 1 1 Tryz.underlying94 hi hz0 hz1 hz2 rfl (by decide) _ _ _ rfl (hown.alloc _) ⟨w1.heap.size, 0, none⟩ 1 1 [.int .u8 (s[k].toNat : Int)] rfl rfl (cell_one_new _ _ _) (by simp [Value.oneCell']) (by unfold maxLen; omega) (by omega) (by simp; omega) ?_; intro v' w2 hown2 hg2 _))
            clear hc1 hf1
            go_step3
            refine ⟨rfl, ⟨k + 1, acc ++ [s[k]], v', ?_⟩, ?_⟩
            · iterate 55 apply Exists.intro
              refine ⟨rfl, by omega, by omega, by simp; omega, ?_, ?_, ?_, ?_⟩
              · unfold OwnB; simpa [by8] using hown2
              · exact (hwh.alloc _).grown hg2 fun e => by have := (World.ownsRow.lt hown _ e.symm).1; omega
              · exact (hb.alloc hb.size _).grown hg2 (by have := hb.size; simp; omega) fun j e => by have := (World.ownsRow.lt hown _ e).1; omega
              · rw [← hq, drop_cons s k hlt, quoted_more hp h34 h92]
            · simp [intOf]; omega
      · have hp' : (!Bs.plain s[k]) = true := by simp [hp]
        go_wp2_with (first | (go_at_call 136; refine (plain_calls _ _).mono ?_; rintro e w' ⟨rfl, rfl⟩))
        simp only [Exit.jump]
        refine bodyPost_ret (v := readV none) (by simp [results, Tryz.results72, go_sem, hc1, readV]) rfl ⟨?_, ?_⟩
        · rw [← hq, drop_cons s k hlt, quoted_no hp']
        · repeat' (with_reducible first | exact hb | exact Nat.le_refl _ | refine below_set ?_ ?_ | refine below_drew ?_)
    · have hlt2 : (s.size : Int) ≤ (k : Int) := by omega
      have hc1 := hwh.cell
      have hf1 := hwh.frozen
      have hlt1 : w.heap.size < w1.heap.size := hwh.lt
      go_wp2
      simp only [Exit.jump]
      refine bodyPost_ret (v := readV none) (by simp [results, Tryz.results72, go_sem, hc1, readV]) rfl ⟨?_, ?_⟩
      · rw [← hq, List.drop_eq_nil_of_le (by simp; omega)]; rfl
      · repeat' (with_reducible first | exact hb | exact Nat.le_refl _ | refine below_set ?_ ?_ | refine below_drew ?_)
end Go.Proofs.YtgamebffdcpjaaaGreatDoor
