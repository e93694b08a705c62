/- Walks: what sixes tell, as package bare reads them. -/
import Derived.Test.YtgamebffdcpjaaaGreatDoorM1
import Derived.Test.YtgamebffdcpjaaaGreatDoorA3
namespace Go.Proofs.YtgamebffdcpjaaaGreatDoor
open Go.RowKit
set_option maxRecDepth 100000

theorem idx_six (c : UInt8) : Lib.indexByte Bs.sixl c = sixI c := by
  have h : ∀ n, n < 256 → Lib.indexByte Bs.sixl (UInt8.ofNat n) = sixI (UInt8.ofNat n) := by decide +kernel
  have := h c.toNat c.toNat_lt
  rwa [UInt8.ofNat_toNat] at this
theorem index_six (c : UInt8) (w : World) : Calls Tryz.prog 81 #[.string ⟨#[65, 66, 67, 68, 69, 70, 71, 72, 73, 74, 75, 76, 77, 78, 79, 80, 81, 82, 83, 84, 85, 86, 87, 88, 89, 90, 97, 98, 99, 100, 101, 102, 103, 104, 105, 106, 107, 108, 109, 110, 111, 112, 113, 114, 115, 116, 117, 118, 119, 120, 121, 122, 48, 49, 50, 51, 52, 53, 54, 55, 56, 57, 43, 47]⟩, .int .u8 (c.toNat : Int)] w fun e w' => e = .returned (.int .i64 (sixI c)) ∧ w = w' := by
  refine (Tryz.strings_IndexByte _ _ _).mono ?_
  rintro e w' ⟨rfl, rfl⟩
  refine ⟨ret_int ?_, rfl⟩
  rw [← idx_six c]
  simp [Bs.sixl]

def unsixV : Option Bs.Bytes → Value
  | some x => .tuple #[S x, .bool true]
  | none => .tuple #[S [], .bool false]

theorem u8_cast (m : Nat) : ((UInt8.ofNat m).toNat : Int) = (m : Int) % 256 := by simp
theorem or6 (nn : Nat) {x : Nat} (hx : x < 64) : bits .or .u32 ((nn : Int) * 64 % 4294967296) (x : Int) = ((nn * 64 % 4294967296 + x : Nat) : Int) := by
  have h := u32_or_nat (nn * 64 % 4294967296) x (by omega) (by omega)
  rw [nat_join 6 _ _ (by omega) (by omega)] at h
  rw [← h]; rfl

/-- What holds at the jump to where there is none. -/
def UnsixNone (s : ByteArray) (w : World) (a : Act) (w' : World) : Prop :=
  ∃ (u0 u1 u2 u3 u4 u5 u6 u7 u8 u9 u10 u11 u12 u13 u14 u15 u16 u17 u18 u19 u20 u21 u22 u23 u24 u25 u26 u27 u28 u29 u30 u31 u32 u33 u34 u35 u36 u37 u38 u39 u40 u41 u42 u43 u44 u45 u46 u47 u48 u49 u50 u51 u52 u53 u54 u55 u56 u57 u58 u59 u60 u61 : Value), a = { tmps := #[u0, u1, u2, u3, u4, u5, u6, u7, u8, u9, u10, u11, u12, u13, u14, u15, u16, u17, u18, u19, u20, u21, u22, u23, u24, u25, u26, u27, u28, u29, u30, u31, u32, u33, u34, u35, u36, u37, u38, u39, u40, u41, u42, u43, u44, u45, u46, u47, u48, u49, u50, u51, u52, u53, u54, u55, u56, u57, u58, u59, u60, u61], defers := [] } ∧ Below w.heap.size w w' ∧ Bs.unsix s.data.toList = none

theorem trim61_calls (s : ByteArray) (w : World) (hs : s.size ≤ 140737488351232) : Calls Tryz.prog 80 #[.string s, .string ⟨#[61]⟩] w fun e w' => (∃ sh : ByteArray, e = .returned (.string sh) ∧ sh.data.toList = Bs.trimR 61 s.data.toList ∧ sh.size ≤ s.size) ∧ w = w' := by
  refine (Tryz.strings_TrimRight_one s 61 (by decide) w (by omega)).mono ?_
  rintro e w' ⟨rfl, rfl⟩
  refine ⟨⟨_, rfl, ?_, ?_⟩, rfl⟩
  · simp [Bs.trimR_eq]
  · have := Bs.trimR_len 61 s.data.toList
    rw [← Bs.trimR_eq] at this
    show (Lib.trimRightB s.data.toList 61).toArray.size ≤ _
    simpa using this

set_option maxHeartbeats 2000000 in
theorem unsix_calls (s : ByteArray) (w : World) (hs : s.size ≤ 140737488351232) :
    Calls Tryz.prog 18 #[.string s] w fun e w' => e = .returned (unsixV (Bs.unsix s.data.toList)) ∧ Below w.heap.size w w' := by
  go_enter Tryz.func18, Tryz.ntmps18
  go_wp2
  refine scope_jumps 0 (UnsixNone s w) (fun _ _ => 0) rfl ?_ ?_
  · intro hrest
    clear hrest
    go_wp2_with fail
    refine (trim61_calls s w hs).mono ?_
    rintro e w' ⟨⟨sh, rfl, hsh, hss⟩, rfl⟩
    have HSH := Lib.hid hsh
    clear hsh
    have hui := Lib.hid (Bs.unsix_impl s.data.toList)
    by_cases hm : s.size % 4 = 0
    · by_cases hd : s.size - sh.size ≤ 2
      · have h2 : (s.size : Int) - (sh.size : Int) ≤ 2 := by omega
        go_wp2_with fail
        go_loopw [4, 5, 6, 8, 9, 26] (fun v n b _ _ i wr => ∃ (k nn bt : Nat) (l : Bs.Bytes), k ≤ sh.size ∧ i = .int .i64 (k : Int) ∧ n = .int .u32 (nn : Int) ∧ b = .int .i64 (bt : Int) ∧ OwnB wr w.heap.size v l ∧ Below w.heap.size w wr ∧ nn < 4294967296 ∧ (bt = 0 ∨ bt = 2 ∨ bt = 4 ∨ bt = 6) ∧ l.length ≤ k ∧ Bs.feeds (0, 0, []) (sh.data.toList.take k) = some (nn, bt, l)) (fun _ _ _ _ _ i _ => sh.size - (intOf i).toNat)
        case atStart => exact ⟨0, 0, 0, [], Nat.zero_le _, rfl, rfl, rfl, OwnB.nil _ _, Below.refl _ _, by omega, .inl rfl, by simp, rfl⟩
        case round =>
          obtain ⟨k, nn, bt, l, hk, rfl, rfl, rfl, hown, hb, hnn, hbits, hll, hf⟩ := hrel
          by_cases hlt : k < sh.size
          · have hlt2 : (k : Int) < (sh.size : Int) := by omega
            cases hx : Bs.six sh[k] with
            | none =>
              have HX := Lib.hid (sixI_none hx)
              have HXX := Lib.hid hx
              have HF := Lib.hid hf
              clear hx hf
              go_wp2_with (go_at_call 81; refine (index_six _ _).mono ?_; rintro e w' ⟨rfl, rfl⟩; rw [HX.out])
              go_step3
              refine ⟨rfl, ?_⟩
              unfold UnsixNone
              iterate 62 apply Exists.intro
              refine ⟨rfl, hb, ?_⟩
              rw [hui.out, if_neg (by rw [← HSH.out]; simp; omega), ← HSH.out, ← List.take_append_drop (k + 1) sh.data.toList, Bs.feeds_none]
              · rfl
              · rw [take_snoc sh k hlt, Bs.feeds_snoc, HF.out]
                simp only [Option.bind_some, HXX.out, Option.map_none]
            | some x =>
              have hx64 := (Bs.six_lt hx).1
              have HX := Lib.hid (sixI_some hx)
              have HXX := Lib.hid hx
              have HF := Lib.hid hf
              clear hx hf
              obtain ⟨i0, hi, hz0, hz1, hz2⟩ := info_parts info5
              obtain ⟨m, hm'⟩ : ∃ m, m = nn * 64 % 4294967296 + x := ⟨_, rfl⟩
              have hor : bits .or .u32 ((nn : Int) * 64 % 4294967296) (x : Int) = (m : Int) := by rw [or6 nn hx64, hm']
              have hmlt : m < 4294967296 := by omega
              have HM := Lib.hid hm'
              clear hm'
              rcases hbits with rfl | rfl | rfl | rfl
              · go_wp2_with (go_at_call 81; refine (index_six _ _).mono ?_; rintro e w' ⟨rfl, rfl⟩; rw [HX.out])
                refine ⟨⟨k + 1, m, 6, l, by omega, by go_num, rfl, rfl, hown, hb, by omega, by omega, by omega, ?_⟩, by simp [intOf]; omega⟩
                rw [take_snoc sh k hlt, Bs.feeds_snoc, HF.out]
                simp only [Option.bind_some, HXX.out, Option.map_some, Bs.feed0, HM.out]
              · go_wp2_with (first | (go_at_call 81; refine (index_six _ _).mono ?_; rintro e w' ⟨rfl, rfl⟩; rw [HX.out]) | (at_builtin; refine wpList_append_own _ rfl _ _ 94 rfl w.heap.size 5 i0 (.int .u8 0) 1 1 Tryz.underlying94 hi hz0 hz1 hz2 rfl (by decide) _ _ _ rfl (hown.alloc _) ⟨wr.heap.size, 0, none⟩ 1 1 [.int .u8 ((m : Int) % 256)] rfl rfl (cell_one_new _ _ _) (by simp [Value.oneCell']) (by unfold maxLen; omega) (by omega) (by have := hb.size; simp; omega) ?_; intro v' w2 hown2 hg2 _))
                refine ⟨⟨k + 1, m, 0, l ++ [UInt8.ofNat (m)], by omega, by go_num, rfl, rfl, ?_, ?_, by omega, by omega, by simp; omega, ?_⟩, by simp [intOf]; omega⟩
                · unfold OwnB; simpa [by8, u8_cast] using hown2
                · exact (hb.alloc hb.size _).grown hg2 (by have := hb.size; simp; omega) fun j e => (World.ownsRow.lt hown _ e).1
                · rw [take_snoc sh k hlt, Bs.feeds_snoc, HF.out]
                  simp only [Option.bind_some, HXX.out, Option.map_some, Bs.feed2, HM.out]
              · go_wp2_with (first | (go_at_call 81; refine (index_six _ _).mono ?_; rintro e w' ⟨rfl, rfl⟩; rw [HX.out]) | (at_builtin; refine wpList_append_own _ rfl _ _ 94 rfl w.heap.size 5 i0 (.int .u8 0) 1 1 Tryz.underlying94 hi hz0 hz1 hz2 rfl (by decide) _ _ _ rfl (hown.alloc _) ⟨wr.heap.size, 0, none⟩ 1 1 [.int .u8 ((m : Int) / 4 % 256)] rfl rfl (cell_one_new _ _ _) (by simp [Value.oneCell']) (by unfold maxLen; omega) (by omega) (by have := hb.size; simp; omega) ?_; intro v' w2 hown2 hg2 _))
                refine ⟨⟨k + 1, m, 2, l ++ [UInt8.ofNat (m / 4)], by omega, by go_num, rfl, rfl, ?_, ?_, by omega, by omega, by simp; omega, ?_⟩, by simp [intOf]; omega⟩
                · unfold OwnB; simpa [by8, u8_cast] using hown2
                · exact (hb.alloc hb.size _).grown hg2 (by have := hb.size; simp; omega) fun j e => (World.ownsRow.lt hown _ e).1
                · rw [take_snoc sh k hlt, Bs.feeds_snoc, HF.out]
                  simp only [Option.bind_some, HXX.out, Option.map_some, Bs.feed4, HM.out]
              · go_wp2_with (first | (go_at_call 81; refine (index_six _ _).mono ?_; rintro e w' ⟨rfl, rfl⟩; rw [HX.out]) | (at_builtin; refine wpList_append_own _ rfl _ _ 94 rfl w.heap.size 5 i0 (.int .u8 0) 1 1 Tryz.underlying94 hi hz0 hz1 hz2 rfl (by decide) _ _ _ rfl (hown.alloc _) ⟨wr.heap.size, 0, none⟩ 1 1 [.int .u8 ((m : Int) / 16 % 256)] rfl rfl (cell_one_new _ _ _) (by simp [Value.oneCell']) (by unfold maxLen; omega) (by omega) (by have := hb.size; simp; omega) ?_; intro v' w2 hown2 hg2 _))
                refine ⟨⟨k + 1, m, 4, l ++ [UInt8.ofNat (m / 16)], by omega, by go_num, rfl, rfl, ?_, ?_, by omega, by omega, by simp; omega, ?_⟩, by simp [intOf]; omega⟩
                · unfold OwnB; simpa [by8, u8_cast] using hown2
                · exact (hb.alloc hb.size _).grown hg2 (by have := hb.size; simp; omega) fun j e => (World.ownsRow.lt hown _ e).1
                · rw [take_snoc sh k hlt, Bs.feeds_snoc, HF.out]
                  simp only [Option.bind_some, HXX.out, Option.map_some, Bs.feed6, HM.out]
          · have hkk : k = sh.size := by omega
            have HF := Lib.hid hf
            have HKK := Lib.hid hkk
            clear hf hkk
            rcases hbits with rfl | rfl | rfl | rfl
            · have hx : (convert 94 9 u4).run Tryz.prog wr = .ok (.string ⟨l.toArray⟩) wr := hown.text 0
              have hmask : bits .and .u32 (nn : Int) 0 = ((nn % 1 : Nat) : Int) := by
                have h := u32_and_nat nn 0 hnn (by omega)
                rw [Nat.and_zero] at h
                rw [Nat.mod_one]
                exact h
              by_cases hz : nn % 1 = 0
              · have hmz : (bits .and .u32 (nn : Int) 0 == 0) = true := by rw [hmask, hz]; rfl
                have HZ := Lib.hid hz
                clear hz hmask
                go_wp2_with fail
                simp only [Exit.jump]
                go_ret2
                refine ⟨?_, hb⟩
                rw [hui.out, if_neg (by rw [← HSH.out]; simp; omega), ← HSH.out, ← List.take_of_length_le (i := k) (l := sh.data.toList) (by simp; have := HKK.out; omega), HF.out]
                simp only [Bs.fed]
                rw [if_pos HZ.out]; rfl
              · have hmz : (bits .and .u32 (nn : Int) 0 == 0) = false := by rw [hmask]; simp; omega
                have HZ := Lib.hid hz
                clear hz hmask
                go_wp2_with fail
                go_step3
                rename_i hK
                refine hK _ _ ?_
                go_wp2_with fail
                simp only [Exit.jump]
                go_ret2
                refine ⟨?_, hb⟩
                rw [hui.out, if_neg (by rw [← HSH.out]; simp; omega), ← HSH.out, ← List.take_of_length_le (i := k) (l := sh.data.toList) (by simp; have := HKK.out; omega), HF.out]
                simp only [Bs.fed]
                rw [if_neg HZ.out]; rfl
            · have hx : (convert 94 9 u4).run Tryz.prog wr = .ok (.string ⟨l.toArray⟩) wr := hown.text 0
              have hmask : bits .and .u32 (nn : Int) 3 = ((nn % 4 : Nat) : Int) := by
                have h := u32_and_nat nn 3 hnn (by omega)
                rw [nat_mask2] at h
                exact h
              by_cases hz : nn % 4 = 0
              · have hmz : (bits .and .u32 (nn : Int) 3 == 0) = true := by rw [hmask, hz]; rfl
                have HZ := Lib.hid hz
                clear hz hmask
                go_wp2_with fail
                simp only [Exit.jump]
                go_ret2
                refine ⟨?_, hb⟩
                rw [hui.out, if_neg (by rw [← HSH.out]; simp; omega), ← HSH.out, ← List.take_of_length_le (i := k) (l := sh.data.toList) (by simp; have := HKK.out; omega), HF.out]
                simp only [Bs.fed]
                rw [if_pos HZ.out]; rfl
              · have hmz : (bits .and .u32 (nn : Int) 3 == 0) = false := by rw [hmask]; simp; omega
                have HZ := Lib.hid hz
                clear hz hmask
                go_wp2_with fail
                go_step3
                rename_i hK
                refine hK _ _ ?_
                go_wp2_with fail
                simp only [Exit.jump]
                go_ret2
                refine ⟨?_, hb⟩
                rw [hui.out, if_neg (by rw [← HSH.out]; simp; omega), ← HSH.out, ← List.take_of_length_le (i := k) (l := sh.data.toList) (by simp; have := HKK.out; omega), HF.out]
                simp only [Bs.fed]
                rw [if_neg HZ.out]; rfl
            · have hx : (convert 94 9 u4).run Tryz.prog wr = .ok (.string ⟨l.toArray⟩) wr := hown.text 0
              have hmask : bits .and .u32 (nn : Int) 15 = ((nn % 16 : Nat) : Int) := by
                have h := u32_and_nat nn 15 hnn (by omega)
                rw [nat_mask4] at h
                exact h
              by_cases hz : nn % 16 = 0
              · have hmz : (bits .and .u32 (nn : Int) 15 == 0) = true := by rw [hmask, hz]; rfl
                have HZ := Lib.hid hz
                clear hz hmask
                go_wp2_with fail
                simp only [Exit.jump]
                go_ret2
                refine ⟨?_, hb⟩
                rw [hui.out, if_neg (by rw [← HSH.out]; simp; omega), ← HSH.out, ← List.take_of_length_le (i := k) (l := sh.data.toList) (by simp; have := HKK.out; omega), HF.out]
                simp only [Bs.fed]
                rw [if_pos HZ.out]; rfl
              · have hmz : (bits .and .u32 (nn : Int) 15 == 0) = false := by rw [hmask]; simp; omega
                have HZ := Lib.hid hz
                clear hz hmask
                go_wp2_with fail
                go_step3
                rename_i hK
                refine hK _ _ ?_
                go_wp2_with fail
                simp only [Exit.jump]
                go_ret2
                refine ⟨?_, hb⟩
                rw [hui.out, if_neg (by rw [← HSH.out]; simp; omega), ← HSH.out, ← List.take_of_length_le (i := k) (l := sh.data.toList) (by simp; have := HKK.out; omega), HF.out]
                simp only [Bs.fed]
                rw [if_neg HZ.out]; rfl
            · have hx : (convert 94 9 u4).run Tryz.prog wr = .ok (.string ⟨l.toArray⟩) wr := hown.text 0
              have hmask : bits .and .u32 (nn : Int) 63 = ((nn % 64 : Nat) : Int) := by
                have h := u32_and_nat nn 63 hnn (by omega)
                rw [nat_mask6] at h
                exact h
              by_cases hz : nn % 64 = 0
              · have hmz : (bits .and .u32 (nn : Int) 63 == 0) = true := by rw [hmask, hz]; rfl
                have HZ := Lib.hid hz
                clear hz hmask
                go_wp2_with fail
                simp only [Exit.jump]
                go_ret2
                refine ⟨?_, hb⟩
                rw [hui.out, if_neg (by rw [← HSH.out]; simp; omega), ← HSH.out, ← List.take_of_length_le (i := k) (l := sh.data.toList) (by simp; have := HKK.out; omega), HF.out]
                simp only [Bs.fed]
                rw [if_pos HZ.out]; rfl
              · have hmz : (bits .and .u32 (nn : Int) 63 == 0) = false := by rw [hmask]; simp; omega
                have HZ := Lib.hid hz
                clear hz hmask
                go_wp2_with fail
                go_step3
                rename_i hK
                refine hK _ _ ?_
                go_wp2_with fail
                simp only [Exit.jump]
                go_ret2
                refine ⟨?_, hb⟩
                rw [hui.out, if_neg (by rw [← HSH.out]; simp; omega), ← HSH.out, ← List.take_of_length_le (i := k) (l := sh.data.toList) (by simp; have := HKK.out; omega), HF.out]
                simp only [Bs.fed]
                rw [if_neg HZ.out]; rfl
      · have h2 : 2 < (s.size : Int) - (sh.size : Int) := by omega
        go_wp2_with fail
        go_step3
        refine ⟨rfl, ?_⟩
        unfold UnsixNone
        iterate 62 apply Exists.intro
        refine ⟨rfl, Below.refl _ _, ?_⟩
        rw [hui.out, if_pos (.inr (by rw [← HSH.out]; simp; omega))]
    · go_wp2_with fail
      go_step3
      refine ⟨rfl, ?_⟩
      unfold UnsixNone
      iterate 62 apply Exists.intro
      refine ⟨rfl, Below.refl _ _, ?_⟩
      rw [hui.out, if_pos (.inl (by simpa using hm))]
  · rintro a' w1 ⟨u0, u1, u2, u3, u4, u5, u6, u7, u8, u9, u10, u11, u12, u13, u14, u15, u16, u17, u18, u19, u20, u21, u22, u23, u24, u25, u26, u27, u28, u29, u30, u31, u32, u33, u34, u35, u36, u37, u38, u39, u40, u41, u42, u43, u44, u45, u46, u47, u48, u49, u50, u51, u52, u53, u54, u55, u56, u57, u58, u59, u60, u61, rfl, hb, hn⟩
    have HN := Lib.hid hn
    clear hn
    go_wp2
    simp only [Exit.jump]
    go_ret2
    exact ⟨by rw [HN.out]; rfl, hb⟩
end Go.Proofs.YtgamebffdcpjaaaGreatDoor
