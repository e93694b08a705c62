/- Walks: numbers, as the reference reads them. -/
import Derived.Test.YtgamebffdcpjaaaGreatDoorW5
import Derived.Deep.RegionWith
namespace Go.Proofs.YtgamebffdcpjaaaGreatDoor
open Go.RowKit
set_option maxRecDepth 100000

set_option maxHeartbeats 1000000 in
theorem rnumber_plus (s : ByteArray) (w : World) (hs : s.size ≤ maxLen) (h0 : 0 < s.size) (hm : s[0] ≠ 45) :
    Calls Tryz.prog 77 #[.string s] w fun e w' => e = .returned (readV (Bs.numberAt (1) s.data.toList)) ∧ Below w.heap.size w w' := by
  unfold maxLen at hs
  have hc : ((s[0].toNat : Int) == 45) = false := (bneU8 (a := s[0]) (b := 45)).2 hm
  clear hm
  go_enter Tryz.func77, Tryz.ntmps77
  go_wp2_with fail
  obtain ⟨n, hn⟩ : ∃ n, n = Bs.run Bs.digit s.data.toList := ⟨_, rfl⟩
  have HN := Lib.hid hn
  have hnl : n ≤ s.size := by
    have := run_le Bs.digit s.data.toList
    rw [hn]; simpa using this
  have hUl : s.data.toList.length = s.size := by simp
  have HUL := Lib.hid hUl
  clear hn hUl
  refine (rrun_calls _ _ (by unfold maxLen; omega)).mono ?_
  rintro e w' ⟨rfl, rfl⟩
  rw [← HN.out]
  by_cases hbad : n < 1 ∨ 15 < n
  · have hz : (((n : Int) == 0) || decide (15 < (n : Int))) = true := by simp; omega
    by_cases hn0 : n = 0
    · have h1 : ((n : Int) == 0) = true := by simp [hn0]
      have HB := Lib.hid hbad
      clear hbad hn0 hz
      go_wp2_with fail
      refine (none_calls _).mono ?_
      rintro e w1 ⟨rfl, hb⟩
      have hc1 : ∀ o, w1.cell? ⟨w.heap.size, o, none⟩ = _ := fun o => hb.cell (p := ⟨w.heap.size, o, none⟩) (by simp)
      have hf1 : ∀ o, w1.frozen? ⟨w.heap.size, o, none⟩ = _ := fun o => hb.frozen (p := ⟨w.heap.size, o, none⟩) (by simp)
      have hb2 : Below w.heap.size w w1 := ((Below.refl _ _).alloc (Nat.le_refl _) _).trans (hb.mono (by simp))
      have hb3 : w.heap.size < w1.heap.size := by have := hb.size; simp at this; omega
      clear hb
      simp only [readV]
      go_wp2_with fail
      refine bodyPost_ret (v := readV none) (by simp [results, Tryz.results77, go_sem, hc1, readV]) rfl ⟨?_, ?_⟩
      · rw [numberAt_bad (by rw [← HN.out]; exact HB.out)]
      · repeat' (with_reducible first | exact hb2 | exact Nat.le_refl _ | refine below_set ?_ ?_ | refine below_drew ?_)
    · have h1 : ((n : Int) == 0) = false := by simp [hn0]
      have h2 : 15 < n := by omega
      have HB := Lib.hid hbad
      clear hbad hn0 hz
      go_wp2_with fail
      refine (none_calls _).mono ?_
      rintro e w1 ⟨rfl, hb⟩
      have hc1 : ∀ o, w1.cell? ⟨w.heap.size, o, none⟩ = _ := fun o => hb.cell (p := ⟨w.heap.size, o, none⟩) (by simp)
      have hf1 : ∀ o, w1.frozen? ⟨w.heap.size, o, none⟩ = _ := fun o => hb.frozen (p := ⟨w.heap.size, o, none⟩) (by simp)
      have hb2 : Below w.heap.size w w1 := ((Below.refl _ _).alloc (Nat.le_refl _) _).trans (hb.mono (by simp))
      have hb3 : w.heap.size < w1.heap.size := by have := hb.size; simp at this; omega
      clear hb
      simp only [readV]
      go_wp2_with fail
      refine bodyPost_ret (v := readV none) (by simp [results, Tryz.results77, go_sem, hc1, readV]) rfl ⟨?_, ?_⟩
      · rw [numberAt_bad (by rw [← HN.out]; exact HB.out)]
      · repeat' (with_reducible first | exact hb2 | exact Nat.le_refl _ | refine below_set ?_ ?_ | refine below_drew ?_)
  · obtain ⟨h1, h15⟩ : 1 ≤ n ∧ n ≤ 15 := by omega
    clear hbad
    have hz0 : ((n : Int) == 0) = false := by simp; omega
    obtain ⟨t, ht⟩ : ∃ t, t = s.extract 0 n := ⟨_, rfl⟩
    have htl : t.data.toList = s.data.toList.take n := by rw [ht, Lib.extract_data]; simp
    have hts : t.size = n := by
      have : t.data.toList.length = t.size := by simp
      rw [← this, htl]; simp; omega
    have hrun : ∀ c ∈ t.data.toList, Bs.digit c = true := by rw [htl, HN.out]; exact run_take _ _
    have hv : Bs.value t.data.toList < 1000000000000000 := by
      have hv1 := value_le _ hrun
      have hv2 : 10 ^ t.data.toList.length ≤ 10 ^ 15 := Nat.pow_le_pow_right (by omega) (by rw [htl, List.length_take]; omega)
      exact Nat.lt_of_lt_of_le hv1 hv2
    have HR := Lib.hid hrun
    have HT := Lib.hid ht
    have HTL := Lib.hid htl
    have HTS := Lib.hid hts
    clear hrun ht htl hts
    have V1 := fun (W : World) => value_calls t W (by rw [HTS.out]; omega) HR.out
    have V1H := Lib.hid V1
    clear V1
    have hw1 : IntKind.i64.wrap (Bs.value t.data.toList : Int) = (Bs.value t.data.toList : Int) := IntWalk.i64_in _ (by omega)
    have hw2 : IntKind.i64.wrap (-(Bs.value t.data.toList : Int)) = -(Bs.value t.data.toList : Int) := IntWalk.i64_in _ (by omega)
    have hw3 : IntKind.i64.wrap (1000 * (Bs.value t.data.toList : Int)) = 1000 * (Bs.value t.data.toList : Int) := IntWalk.i64_in _ (by omega)
    by_cases hend : n = s.size
    · have he1 : ((n : Int) == (s.size : Int)) = true := by simp [hend]
      have HE := Lib.hid hend
      clear hend
      go_wp2_with fail
      go_region_with ((go_at_call 139; rw [← HT.out]; refine (V1H.out _).mono ?_; rintro e w' ⟨rfl, rfl⟩))
      all_goals go_wp2_with fail
      all_goals refine bodyPost_ret (v := .tuple #[.agg #[.int .u8 1, .int .i64 (1 * (Bs.value t.data.toList : Int)), S [], .bool false], S (s.data.toList.drop n), .int .i64 0]) ?_ rfl ⟨?_, ((Below.refl _ _).alloc (Nat.le_refl _) _).drew⟩
      all_goals first
        | (simp [results, Tryz.results77, go_sem]; exact ba_mk' (Lib.extract_to_end _ _))
        | (rw [numberAt_int HN.out h1 h15 (.inl (HE.out.trans HUL.out.symm)), ← HTL.out]; rfl)
    · have he1 : ((n : Int) == (s.size : Int)) = false := by simp; omega
      have hlt : n < s.size := by omega
      clear hend
      by_cases hd : s[n] = 46
      · have he2 : ((s[n].toNat : Int) != 46) = false := by
          have h' : ((s[n].toNat : Int) == 46) = true := (beqU8 (a := s[n]) (b := 46)).2 hd
          simp [bne, h']
        have HD := Lib.hid hd
        have HG := Lib.hid (ba_get s n hlt)
        clear hd
        obtain ⟨v, hvx⟩ : ∃ v, v = s.extract (n + 1) s.size := ⟨_, rfl⟩
        have hvl : v.data.toList = s.data.toList.drop (n + 1) := by rw [hvx, Lib.extract_to_end]
        have hvs : v.size ≤ s.size := by
          have e1 : v.data.toList.length = v.size := by simp
          rw [← e1, hvl, List.length_drop, HUL.out]; omega
        have HV := Lib.hid hvx
        have HVL := Lib.hid hvl
        clear hvx hvl
        obtain ⟨k, hk⟩ : ∃ k, k = Bs.run Bs.digit v.data.toList := ⟨_, rfl⟩
        have HK := Lib.hid hk
        have hkl : n + 1 + k ≤ s.size := by
          have h1 := run_le Bs.digit v.data.toList
          rw [hk]
          rw [HVL.out, List.length_drop, HUL.out, ← HVL.out] at h1
          omega
        clear hk
        go_wp2_with fail
        rw [← HV.out]
        refine (rrun_calls _ _ (by unfold maxLen; omega)).mono ?_
        rintro e w' ⟨rfl, rfl⟩
        rw [← HK.out]
        by_cases hbad : 12 < n ∨ k < 1 ∨ 3 < k
        · go_wp2_with fail
          all_goals (refine (none_calls _).mono ?_; rintro e w1 ⟨rfl, hb⟩)
          all_goals have hc1 : ∀ o, w1.cell? ⟨w.heap.size, o, none⟩ = _ := fun o => hb.cell (p := ⟨w.heap.size, o, none⟩) (by simp)
          all_goals have hf1 : ∀ o, w1.frozen? ⟨w.heap.size, o, none⟩ = _ := fun o => hb.frozen (p := ⟨w.heap.size, o, none⟩) (by simp)
          all_goals have hb2 : Below w.heap.size w w1 := ((Below.refl _ _).alloc (Nat.le_refl _) _).trans (hb.mono (by simp))
          all_goals have hb3 : w.heap.size < w1.heap.size := by have := hb.size; simp at this; omega
          all_goals clear hb
          all_goals simp only [readV]
          all_goals go_wp2_with fail
          all_goals refine bodyPost_ret (v := readV none) (by simp [results, Tryz.results77, go_sem, hc1, readV]) rfl ⟨?_, ?_⟩
          all_goals first
            | (rw [numberAt_none HN.out (by rw [HUL.out]; exact hlt) (by rw [← HG.out]; exact HD.out) (by rw [← HVL.out]; exact HK.out) hbad])
            | (repeat' (with_reducible first | exact hb2 | exact Nat.le_refl _ | refine below_set ?_ ?_ | refine below_drew ?_))
        · obtain ⟨h12, hk1, hk3⟩ : n ≤ 12 ∧ 1 ≤ k ∧ k ≤ 3 := by omega
          clear hbad
          obtain ⟨q, hq⟩ : ∃ q, q = s.extract (n + 1) (n + 1 + k) ++ ⟨#[48, 48]⟩ := ⟨_, rfl⟩
          obtain ⟨p, hp⟩ : ∃ p, p = q.extract 0 3 := ⟨_, rfl⟩
          have hpl : p.data.toList = ((v.data.toList.take k ++ [48, 48]).take 3) := by
            rw [hp, hq, Lib.extract_data, ba_append, Lib.extract_data, HVL.out]; simp
          have hpd : ∀ c ∈ p.data.toList, Bs.digit c = true := by rw [hpl, HK.out]; exact part_digits
          have hqs : q.size = k + 2 := by
            have e1 : q.data.toList.length = q.size := by simp
            have e2 : s.data.toList.length = s.size := by simp
            rw [← e1, hq, ba_append, Lib.extract_data]
            simp only [List.length_append, List.length_take, List.length_drop, List.length_cons, List.length_nil, e2]; omega
          have hps : p.size = 3 := by
            have e1 : p.data.toList.length = p.size := by simp
            rw [← e1, hpl]
            have := run_le Bs.digit v.data.toList
            rw [← HK.out] at this
            simp only [List.length_take, List.length_append, List.length_cons, List.length_nil]; omega
          have HQ := Lib.hid hq
          have HP := Lib.hid hp
          have HPL := Lib.hid hpl
          have HPD := Lib.hid hpd
          have HPS := Lib.hid hps
          have hqs3 : 3 ≤ q.size := by omega
          have hqs4 : (3 : Int) ≤ (q.size : Int) := by omega
          clear hq hp hpl hpd hps hqs
          have hpv : Bs.value p.data.toList < 1000 := by
            have hv1 := value_le _ HPD.out
            have e1 : p.data.toList.length = 3 := by have : p.data.toList.length = p.size := by simp
                                                     rw [this, HPS.out]
            rw [e1] at hv1
            exact hv1
          have V2 := fun (W : World) => value_calls p W (by rw [HPS.out]; omega) HPD.out
          have V2H := Lib.hid V2
          clear V2
          have hw4 : IntKind.i64.wrap (1000 * (Bs.value t.data.toList : Int) + (Bs.value p.data.toList : Int)) = 1000 * (Bs.value t.data.toList : Int) + (Bs.value p.data.toList : Int) := IntWalk.i64_in _ (by omega)
          have hw5 : IntKind.i64.wrap (-(1000 * (Bs.value t.data.toList : Int) + (Bs.value p.data.toList : Int))) = -(1000 * (Bs.value t.data.toList : Int) + (Bs.value p.data.toList : Int)) := IntWalk.i64_in _ (by omega)
          have hw6 : IntKind.i64.wrap (n + 1) = (n : Int) + 1 := IntWalk.i64_in _ (by omega)
          have hw7 : IntKind.i64.wrap (n + 1 + k) = (n : Int) + 1 + k := IntWalk.i64_in _ (by omega)
          have hn1 : 0 ≤ (n : Int) + 1 := by omega
          have hn2 : 0 ≤ (n : Int) + 1 + k := by omega
          have hn3 : ((n : Int) + 1).toNat = n + 1 := by omega
          have hn4 : ((n : Int) + 1 + k).toNat = n + 1 + k := by omega
          go_wp2_with fail
          rw [← HQ.out]
          go_region_with ((go_at_call 139; first | (rw [← HT.out]; refine (V1H.out _).mono ?_; rintro e w' ⟨rfl, rfl⟩) | (rw [← HP.out]; refine (V2H.out _).mono ?_; rintro e w' ⟨rfl, rfl⟩)))
          all_goals go_wp2_with fail
          all_goals refine bodyPost_ret (v := .tuple #[.agg #[.int .u8 2, .int .i64 (1 * (1000 * (Bs.value t.data.toList : Int) + (Bs.value p.data.toList : Int))), S [], .bool false], S (s.data.toList.drop (n + 1 + k)), .int .i64 0]) ?_ rfl ⟨?_, ((Below.refl _ _).alloc (Nat.le_refl _) _).drew⟩
          all_goals first
            | (simp [results, Tryz.results77, go_sem]; exact ba_mk' (Lib.extract_to_end _ _))
            | (rw [numberAt_dec HN.out h1 (by rw [HUL.out]; exact hlt) (by rw [← HG.out]; exact HD.out) (by rw [← HVL.out]; exact HK.out) h12 hk1 hk3, ← HTL.out, ← HVL.out, ← HPL.out]; rfl)
      · have he2 : ((s[n].toNat : Int) != 46) = true := by
          have h := (bneU8 (a := s[n]) (b := 46)).2 hd
          have h' : ((s[n].toNat : Int) == 46) = false := h
          simp [bne, h']
        have HD := Lib.hid hd
        have HG := Lib.hid (ba_get s n hlt)
        clear hd
        go_wp2_with fail
        go_region_with ((go_at_call 139; rw [← HT.out]; refine (V1H.out _).mono ?_; rintro e w' ⟨rfl, rfl⟩))
        all_goals go_wp2_with fail
        all_goals refine bodyPost_ret (v := .tuple #[.agg #[.int .u8 1, .int .i64 (1 * (Bs.value t.data.toList : Int)), S [], .bool false], S (s.data.toList.drop n), .int .i64 0]) ?_ rfl ⟨?_, ((Below.refl _ _).alloc (Nat.le_refl _) _).drew⟩
        all_goals first
          | (simp [results, Tryz.results77, go_sem]; exact ba_mk' (Lib.extract_to_end _ _))
          | (rw [numberAt_int HN.out h1 h15 (.inr ⟨by rw [HUL.out]; exact hlt, by rw [← HG.out]; exact HD.out⟩), ← HTL.out]; rfl)

set_option maxHeartbeats 1000000 in
theorem rnumber_minus (s : ByteArray) (w : World) (hs : s.size ≤ maxLen) (h0 : 0 < s.size) (hm : s[0] = 45) :
    Calls Tryz.prog 77 #[.string s] w fun e w' => e = .returned (readV (Bs.numberAt (-1) (s.data.toList.drop 1))) ∧ Below w.heap.size w w' := by
  unfold maxLen at hs
  have hc : ((s[0].toNat : Int) == 45) = true := (beqU8 (a := s[0]) (b := 45)).2 hm
  clear hm
  obtain ⟨u, hu⟩ : ∃ u, u = s.extract 1 s.size := ⟨_, rfl⟩
  have hul : u.data.toList = s.data.toList.drop 1 := by rw [hu, Lib.extract_to_end]
  have husz : u.size ≤ s.size := by
    have e1 : u.data.toList.length = u.size := by simp
    have e2 : s.data.toList.length = s.size := by simp
    rw [← e1, hul, List.length_drop]; omega
  have HUX := Lib.hid hul
  rw [← hul]
  have HU := Lib.hid hu
  clear hu hul
  go_enter Tryz.func77, Tryz.ntmps77
  go_wp2_with fail
  rw [← HU.out]
  obtain ⟨n, hn⟩ : ∃ n, n = Bs.run Bs.digit u.data.toList := ⟨_, rfl⟩
  have HN := Lib.hid hn
  have hnl : n ≤ u.size := by
    have := run_le Bs.digit u.data.toList
    rw [hn]; simpa using this
  have hUl : u.data.toList.length = u.size := by simp
  have HUL := Lib.hid hUl
  clear hn hUl
  refine (rrun_calls _ _ (by unfold maxLen; omega)).mono ?_
  rintro e w' ⟨rfl, rfl⟩
  rw [← HN.out]
  by_cases hbad : n < 1 ∨ 15 < n
  · have hz : (((n : Int) == 0) || decide (15 < (n : Int))) = true := by simp; omega
    by_cases hn0 : n = 0
    · have h1 : ((n : Int) == 0) = true := by simp [hn0]
      have HB := Lib.hid hbad
      clear hbad hn0 hz
      go_wp2_with fail
      refine (none_calls _).mono ?_
      rintro e w1 ⟨rfl, hb⟩
      have hc1 : ∀ o, w1.cell? ⟨w.heap.size, o, none⟩ = _ := fun o => hb.cell (p := ⟨w.heap.size, o, none⟩) (by simp)
      have hf1 : ∀ o, w1.frozen? ⟨w.heap.size, o, none⟩ = _ := fun o => hb.frozen (p := ⟨w.heap.size, o, none⟩) (by simp)
      have hb2 : Below w.heap.size w w1 := ((Below.refl _ _).alloc (Nat.le_refl _) _).trans (hb.mono (by simp))
      have hb3 : w.heap.size < w1.heap.size := by have := hb.size; simp at this; omega
      clear hb
      simp only [readV]
      go_wp2_with fail
      refine bodyPost_ret (v := readV none) (by simp [results, Tryz.results77, go_sem, hc1, readV]) rfl ⟨?_, ?_⟩
      · rw [numberAt_bad (by rw [← HN.out]; exact HB.out)]
      · repeat' (with_reducible first | exact hb2 | exact Nat.le_refl _ | refine below_set ?_ ?_ | refine below_drew ?_)
    · have h1 : ((n : Int) == 0) = false := by simp [hn0]
      have h2 : 15 < n := by omega
      have HB := Lib.hid hbad
      clear hbad hn0 hz
      go_wp2_with fail
      refine (none_calls _).mono ?_
      rintro e w1 ⟨rfl, hb⟩
      have hc1 : ∀ o, w1.cell? ⟨w.heap.size, o, none⟩ = _ := fun o => hb.cell (p := ⟨w.heap.size, o, none⟩) (by simp)
      have hf1 : ∀ o, w1.frozen? ⟨w.heap.size, o, none⟩ = _ := fun o => hb.frozen (p := ⟨w.heap.size, o, none⟩) (by simp)
      have hb2 : Below w.heap.size w w1 := ((Below.refl _ _).alloc (Nat.le_refl _) _).trans (hb.mono (by simp))
      have hb3 : w.heap.size < w1.heap.size := by have := hb.size; simp at this; omega
      clear hb
      simp only [readV]
      go_wp2_with fail
      refine bodyPost_ret (v := readV none) (by simp [results, Tryz.results77, go_sem, hc1, readV]) rfl ⟨?_, ?_⟩
      · rw [numberAt_bad (by rw [← HN.out]; exact HB.out)]
      · repeat' (with_reducible first | exact hb2 | exact Nat.le_refl _ | refine below_set ?_ ?_ | refine below_drew ?_)
  · obtain ⟨h1, h15⟩ : 1 ≤ n ∧ n ≤ 15 := by omega
    clear hbad
    have hz0 : ((n : Int) == 0) = false := by simp; omega
    obtain ⟨t, ht⟩ : ∃ t, t = u.extract 0 n := ⟨_, rfl⟩
    have htl : t.data.toList = u.data.toList.take n := by rw [ht, Lib.extract_data]; simp
    have hts : t.size = n := by
      have : t.data.toList.length = t.size := by simp
      rw [← this, htl]; simp; omega
    have hrun : ∀ c ∈ t.data.toList, Bs.digit c = true := by rw [htl, HN.out]; exact run_take _ _
    have hv : Bs.value t.data.toList < 1000000000000000 := by
      have hv1 := value_le _ hrun
      have hv2 : 10 ^ t.data.toList.length ≤ 10 ^ 15 := Nat.pow_le_pow_right (by omega) (by rw [htl, List.length_take]; omega)
      exact Nat.lt_of_lt_of_le hv1 hv2
    have HR := Lib.hid hrun
    have HT := Lib.hid ht
    have HTL := Lib.hid htl
    have HTS := Lib.hid hts
    clear hrun ht htl hts
    have V1 := fun (W : World) => value_calls t W (by rw [HTS.out]; omega) HR.out
    have V1H := Lib.hid V1
    clear V1
    have hw1 : IntKind.i64.wrap (Bs.value t.data.toList : Int) = (Bs.value t.data.toList : Int) := IntWalk.i64_in _ (by omega)
    have hw2 : IntKind.i64.wrap (-(Bs.value t.data.toList : Int)) = -(Bs.value t.data.toList : Int) := IntWalk.i64_in _ (by omega)
    have hw3 : IntKind.i64.wrap (1000 * (Bs.value t.data.toList : Int)) = 1000 * (Bs.value t.data.toList : Int) := IntWalk.i64_in _ (by omega)
    by_cases hend : n = u.size
    · have he1 : ((n : Int) == (u.size : Int)) = true := by simp [hend]
      have HE := Lib.hid hend
      clear hend
      go_wp2_with fail
      go_region_with ((go_at_call 139; rw [← HT.out]; refine (V1H.out _).mono ?_; rintro e w' ⟨rfl, rfl⟩))
      all_goals go_wp2_with fail
      all_goals refine bodyPost_ret (v := .tuple #[.agg #[.int .u8 1, .int .i64 (-1 * (Bs.value t.data.toList : Int)), S [], .bool false], S (u.data.toList.drop n), .int .i64 0]) ?_ rfl ⟨?_, ((Below.refl _ _).alloc (Nat.le_refl _) _).drew⟩
      all_goals first
        | (simp [results, Tryz.results77, go_sem]; exact ba_mk' (Lib.extract_to_end _ _))
        | (rw [numberAt_int HN.out h1 h15 (.inl (HE.out.trans HUL.out.symm)), ← HTL.out]; rfl)
    · have he1 : ((n : Int) == (u.size : Int)) = false := by simp; omega
      have hlt : n < u.size := by omega
      clear hend
      by_cases hd : u[n] = 46
      · have he2 : ((u[n].toNat : Int) != 46) = false := by
          have h' : ((u[n].toNat : Int) == 46) = true := (beqU8 (a := u[n]) (b := 46)).2 hd
          simp [bne, h']
        have HD := Lib.hid hd
        have HG := Lib.hid (ba_get u n hlt)
        clear hd
        obtain ⟨v, hvx⟩ : ∃ v, v = u.extract (n + 1) u.size := ⟨_, rfl⟩
        have hvl : v.data.toList = u.data.toList.drop (n + 1) := by rw [hvx, Lib.extract_to_end]
        have hvs : v.size ≤ u.size := by
          have e1 : v.data.toList.length = v.size := by simp
          rw [← e1, hvl, List.length_drop, HUL.out]; omega
        have HV := Lib.hid hvx
        have HVL := Lib.hid hvl
        clear hvx hvl
        obtain ⟨k, hk⟩ : ∃ k, k = Bs.run Bs.digit v.data.toList := ⟨_, rfl⟩
        have HK := Lib.hid hk
        have hkl : n + 1 + k ≤ u.size := by
          have h1 := run_le Bs.digit v.data.toList
          rw [hk]
          rw [HVL.out, List.length_drop, HUL.out, ← HVL.out] at h1
          omega
        clear hk
        go_wp2_with fail
        rw [← HV.out]
        refine (rrun_calls _ _ (by unfold maxLen; omega)).mono ?_
        rintro e w' ⟨rfl, rfl⟩
        rw [← HK.out]
        by_cases hbad : 12 < n ∨ k < 1 ∨ 3 < k
        · go_wp2_with fail
          all_goals (refine (none_calls _).mono ?_; rintro e w1 ⟨rfl, hb⟩)
          all_goals have hc1 : ∀ o, w1.cell? ⟨w.heap.size, o, none⟩ = _ := fun o => hb.cell (p := ⟨w.heap.size, o, none⟩) (by simp)
          all_goals have hf1 : ∀ o, w1.frozen? ⟨w.heap.size, o, none⟩ = _ := fun o => hb.frozen (p := ⟨w.heap.size, o, none⟩) (by simp)
          all_goals have hb2 : Below w.heap.size w w1 := ((Below.refl _ _).alloc (Nat.le_refl _) _).trans (hb.mono (by simp))
          all_goals have hb3 : w.heap.size < w1.heap.size := by have := hb.size; simp at this; omega
          all_goals clear hb
          all_goals simp only [readV]
          all_goals go_wp2_with fail
          all_goals refine bodyPost_ret (v := readV none) (by simp [results, Tryz.results77, go_sem, hc1, readV]) rfl ⟨?_, ?_⟩
          all_goals first
            | (rw [numberAt_none HN.out (by rw [HUL.out]; exact hlt) (by rw [← HG.out]; exact HD.out) (by rw [← HVL.out]; exact HK.out) hbad])
            | (repeat' (with_reducible first | exact hb2 | exact Nat.le_refl _ | refine below_set ?_ ?_ | refine below_drew ?_))
        · obtain ⟨h12, hk1, hk3⟩ : n ≤ 12 ∧ 1 ≤ k ∧ k ≤ 3 := by omega
          clear hbad
          obtain ⟨q, hq⟩ : ∃ q, q = u.extract (n + 1) (n + 1 + k) ++ ⟨#[48, 48]⟩ := ⟨_, rfl⟩
          obtain ⟨p, hp⟩ : ∃ p, p = q.extract 0 3 := ⟨_, rfl⟩
          have hpl : p.data.toList = ((v.data.toList.take k ++ [48, 48]).take 3) := by
            rw [hp, hq, Lib.extract_data, ba_append, Lib.extract_data, HVL.out]; simp
          have hpd : ∀ c ∈ p.data.toList, Bs.digit c = true := by rw [hpl, HK.out]; exact part_digits
          have hqs : q.size = k + 2 := by
            have e1 : q.data.toList.length = q.size := by simp
            have e2 : u.data.toList.length = u.size := by simp
            rw [← e1, hq, ba_append, Lib.extract_data]
            simp only [List.length_append, List.length_take, List.length_drop, List.length_cons, List.length_nil, e2]; omega
          have hps : p.size = 3 := by
            have e1 : p.data.toList.length = p.size := by simp
            rw [← e1, hpl]
            have := run_le Bs.digit v.data.toList
            rw [← HK.out] at this
            simp only [List.length_take, List.length_append, List.length_cons, List.length_nil]; omega
          have HQ := Lib.hid hq
          have HP := Lib.hid hp
          have HPL := Lib.hid hpl
          have HPD := Lib.hid hpd
          have HPS := Lib.hid hps
          have hqs3 : 3 ≤ q.size := by omega
          have hqs4 : (3 : Int) ≤ (q.size : Int) := by omega
          clear hq hp hpl hpd hps hqs
          have hpv : Bs.value p.data.toList < 1000 := by
            have hv1 := value_le _ HPD.out
            have e1 : p.data.toList.length = 3 := by have : p.data.toList.length = p.size := by simp
                                                     rw [this, HPS.out]
            rw [e1] at hv1
            exact hv1
          have V2 := fun (W : World) => value_calls p W (by rw [HPS.out]; omega) HPD.out
          have V2H := Lib.hid V2
          clear V2
          have hw4 : IntKind.i64.wrap (1000 * (Bs.value t.data.toList : Int) + (Bs.value p.data.toList : Int)) = 1000 * (Bs.value t.data.toList : Int) + (Bs.value p.data.toList : Int) := IntWalk.i64_in _ (by omega)
          have hw5 : IntKind.i64.wrap (-(1000 * (Bs.value t.data.toList : Int) + (Bs.value p.data.toList : Int))) = -(1000 * (Bs.value t.data.toList : Int) + (Bs.value p.data.toList : Int)) := IntWalk.i64_in _ (by omega)
          have hw6 : IntKind.i64.wrap (n + 1) = (n : Int) + 1 := IntWalk.i64_in _ (by omega)
          have hw7 : IntKind.i64.wrap (n + 1 + k) = (n : Int) + 1 + k := IntWalk.i64_in _ (by omega)
          have hn1 : 0 ≤ (n : Int) + 1 := by omega
          have hn2 : 0 ≤ (n : Int) + 1 + k := by omega
          have hn3 : ((n : Int) + 1).toNat = n + 1 := by omega
          have hn4 : ((n : Int) + 1 + k).toNat = n + 1 + k := by omega
          go_wp2_with fail
          rw [← HQ.out]
          go_region_with ((go_at_call 139; first | (rw [← HT.out]; refine (V1H.out _).mono ?_; rintro e w' ⟨rfl, rfl⟩) | (rw [← HP.out]; refine (V2H.out _).mono ?_; rintro e w' ⟨rfl, rfl⟩)))
          all_goals go_wp2_with fail
          all_goals refine bodyPost_ret (v := .tuple #[.agg #[.int .u8 2, .int .i64 (-1 * (1000 * (Bs.value t.data.toList : Int) + (Bs.value p.data.toList : Int))), S [], .bool false], S (u.data.toList.drop (n + 1 + k)), .int .i64 0]) ?_ rfl ⟨?_, ((Below.refl _ _).alloc (Nat.le_refl _) _).drew⟩
          all_goals first
            | (simp [results, Tryz.results77, go_sem]; exact ba_mk' (Lib.extract_to_end _ _))
            | (rw [numberAt_dec HN.out h1 (by rw [HUL.out]; exact hlt) (by rw [← HG.out]; exact HD.out) (by rw [← HVL.out]; exact HK.out) h12 hk1 hk3, ← HTL.out, ← HVL.out, ← HPL.out]; rfl)
      · have he2 : ((u[n].toNat : Int) != 46) = true := by
          have h := (bneU8 (a := u[n]) (b := 46)).2 hd
          have h' : ((u[n].toNat : Int) == 46) = false := h
          simp [bne, h']
        have HD := Lib.hid hd
        have HG := Lib.hid (ba_get u n hlt)
        clear hd
        go_wp2_with fail
        go_region_with ((go_at_call 139; rw [← HT.out]; refine (V1H.out _).mono ?_; rintro e w' ⟨rfl, rfl⟩))
        all_goals go_wp2_with fail
        all_goals refine bodyPost_ret (v := .tuple #[.agg #[.int .u8 1, .int .i64 (-1 * (Bs.value t.data.toList : Int)), S [], .bool false], S (u.data.toList.drop n), .int .i64 0]) ?_ rfl ⟨?_, ((Below.refl _ _).alloc (Nat.le_refl _) _).drew⟩
        all_goals first
          | (simp [results, Tryz.results77, go_sem]; exact ba_mk' (Lib.extract_to_end _ _))
          | (rw [numberAt_int HN.out h1 h15 (.inr ⟨by rw [HUL.out]; exact hlt, by rw [← HG.out]; exact HD.out⟩), ← HTL.out]; rfl)

end Go.Proofs.YtgamebffdcpjaaaGreatDoor
