/- Walks: numbers, as package bare and its reference read them. -/
import Derived.Test.YtgamebffdcpjaaaGreatDoorW3
import Derived.Lib.AppendIntMem
import Derived.Lib.AtoiErrMem
import Derived.Lib.IndexBytes
import Derived.RegionTactic
import Derived.BigRegion
import Derived.ChangeAlike
import Derived.Below
import Derived.Sort.Grow
namespace Go.Proofs.YtgamebffdcpjaaaGreatDoor
open Go.RowKit
set_option maxRecDepth 100000

theorem bcell {W w1 : World} (hb : Below W.heap.size W w1) : (∀ b o, b < W.heap.size → w1.cell? ⟨b, o, none⟩ = W.cell? ⟨b, o, none⟩) ∧ (∀ b o, b < W.heap.size → w1.frozen? ⟨b, o, none⟩ = W.frozen? ⟨b, o, none⟩) :=
  ⟨fun b o h => hb.cell (p := ⟨b, o, none⟩) h, fun b o h => hb.frozen (p := ⟨b, o, none⟩) h⟩

theorem below_set {B : Nat} {a w : World} {b o : Nat} {u : Value} (h : Below B a w) (hb : B ≤ b) : Below B a (w.setCell ⟨b, o, none⟩ u) := h.setCell (p := ⟨b, o, none⟩) hb u
theorem below_drew {B : Nat} {a w : World} (h : Below B a w) : Below B a w.drew := h.drew
theorem ba_append (a b : ByteArray) : (a ++ b).data.toList = a.data.toList ++ b.data.toList := by
  rw [ByteArray.data_append]; simp

/-- What the walks hold of the library's own tables. -/
structure Env (w : World) : Prop where
  pow : Lib.TabIs Tryz.prog w "internal/strconv.uint64pow10" .u64 Lib.pow10Tab
  most : ∃ m, w.cell? ⟨0, 0, none⟩ = some (.int .i64 m)
theorem cell_lt {w : World} {a : Addr} {v : Value} (h : w.cell? a = some v) : a.block < w.heap.size := by
  rcases Nat.lt_or_ge a.block w.heap.size with hlt | hge
  · exact hlt
  · unfold World.cell? at h; rw [Array.getElem?_eq_none hge] at h; cases h
theorem Env.below {w w' : World} (h : Env w) (hb : Below w.heap.size w w') : Env w' :=
  ⟨Lib.tabBelow_of_tabIs h.pow w' hb, by obtain ⟨m, hm⟩ := h.most; exact ⟨m, (hb.cell (cell_lt hm)).trans hm⟩⟩

/-- A text, as a value. -/
abbrev S (l : Bs.Bytes) : Value := .string ⟨l.toArray⟩
def bareV (b : Bs.Bare) : Value := .agg #[.int .u8 (b.kind : Int), .int .i64 b.int, S b.text, .bool b.yes]
def readV : Option (Bs.Bare × Bs.Bytes) → Value
  | some (b, r) => .tuple #[bareV b, S r, .int .i64 0]
  | none => .tuple #[.agg #[.int .u8 0, .int .i64 0, S [], .bool false], S [], .int .i64 120]

theorem parse10_value : ∀ (l : Bs.Bytes) (acc : Nat), (∀ c ∈ l, Bs.digit c = true) → acc * 10 ^ l.length + 10 ^ l.length ≤ 1000000000000000000 →
    Lib.parseUint10 acc l = .ok (l.foldl (fun n c => 10 * n + (c.toNat - 48)) acc)
  | [], acc, _, _ => rfl
  | c :: t, acc, h, hl => by
    have hc := h c (by simp)
    simp only [Bs.digit, decide_eq_true_eq] at hc
    rw [List.length_cons, Nat.pow_succ] at hl
    have hp : 1 ≤ 10 ^ t.length := Nat.one_le_pow _ _ (by omega)
    have h1 : acc * 10 * 10 ^ t.length + 10 * 10 ^ t.length ≤ 1000000000000000000 := by
      have e1 : acc * (10 ^ t.length * 10) = acc * 10 * 10 ^ t.length := by rw [Nat.mul_comm (10 ^ t.length) 10, Nat.mul_assoc]
      have e2 : 10 ^ t.length * 10 = 10 * 10 ^ t.length := Nat.mul_comm _ _
      omega
    have h2 : acc * 10 ≤ acc * 10 * 10 ^ t.length := Nat.le_mul_of_pos_right _ hp
    have h3 : (acc * 10 + (c.toNat - 48)) * 10 ^ t.length + 10 ^ t.length ≤ 1000000000000000000 := by
      have e : (acc * 10 + (c.toNat - 48)) * 10 ^ t.length ≤ (acc * 10 + 9) * 10 ^ t.length := Nat.mul_le_mul_right _ (by omega)
      rw [Nat.add_mul (acc * 10) 9] at e
      omega
    simp only [Lib.parseUint10, hc, and_self, if_true]
    rw [if_neg (by omega), if_neg (by omega), parse10_value t _ (fun x hx => h x (by simp [hx])) h3, List.foldl_cons]
    rw [Nat.mul_comm acc 10]
theorem atoi_value {l : Bs.Bytes} (h : ∀ c ∈ l, Bs.digit c = true) (h0 : l ≠ []) (h1 : l.length ≤ 15) : Lib.atoiAll l = .ok (Bs.value l) := by
  cases l with
  | nil => exact absurd rfl h0
  | cons c t =>
    have hc := h c (by simp)
    simp only [Bs.digit, decide_eq_true_eq] at hc
    have hp : 10 ^ (c :: t).length ≤ 10 ^ 15 := Nat.pow_le_pow_right (by omega) h1
    have hv := value_le (c :: t) h
    have hv2 : Bs.value (c :: t) < 10 ^ 15 := Nat.lt_of_lt_of_le hv hp
    have e := parse10_value (c :: t) 0 h (by omega)
    simp only [Lib.atoiAll]
    rw [if_neg (by omega), Lib.parseMag, if_neg (by simp), e]
    have e2 : (c :: t).foldl (fun n c => 10 * n + (c.toNat - 48)) 0 = Bs.value (c :: t) := rfl
    rw [e2]
    simp only
    rw [if_neg (by omega), if_neg (by omega), if_neg (by omega)]

theorem atoi_calls (s : ByteArray) (w : World) (hd : ∀ c ∈ s.data.toList, Bs.digit c = true) (h0 : 1 ≤ s.size) (h1 : s.size ≤ 15) :
    Calls Tryz.prog 134 #[.string s] w fun e w' => e = .returned (.tuple #[.int .i64 (Bs.value s.data.toList), .nilIface]) ∧ Below w.heap.size w w' := by
  have hz : s.data.toList.length = s.size := by simp
  refine (Tryz.strconv_Atoi_ok s (by omega) _ (atoi_value hd (fun e => by rw [e] at hz; simp at hz; omega) (by omega)) w).mono ?_
  rintro e w' ⟨rfl, rfl | ⟨t, rfl⟩⟩
  · exact ⟨rfl, Below.refl _ _⟩
  · exact ⟨rfl, Lib.bytesWorld_below w 5 t⟩

theorem run_le (p : UInt8 → Bool) (l : Bs.Bytes) : Bs.run p l ≤ l.length := by
  unfold Bs.run
  induction l with
  | nil => simp
  | cons c t ih => rw [List.takeWhile_cons]; split <;> simp <;> omega

theorem numberAt_bad {g : Int} {t : Bs.Bytes} (h : Bs.run Bs.digit t < 1 ∨ 15 < Bs.run Bs.digit t) : Bs.numberAt g t = none := by
  unfold Bs.numberAt; simp only; rw [if_pos h]

theorem run_take (p : UInt8 → Bool) (l : Bs.Bytes) : ∀ c ∈ l.take (Bs.run p l), p c = true := by
  unfold Bs.run
  induction l with
  | nil => simp
  | cons c t ih =>
    intro x hx
    rw [List.takeWhile_cons] at hx
    split at hx
    · rename_i h
      simp only [List.length_cons, List.take_succ_cons, List.mem_cons] at hx
      rcases hx with rfl | hx
      · exact h
      · exact ih x hx
    · simp at hx

theorem numberAt_int {g : Int} {l : Bs.Bytes} {n : Nat} (hn : n = Bs.run Bs.digit l) (h1 : 1 ≤ n) (h15 : n ≤ 15) (hr : n = l.length ∨ n < l.length ∧ l.getD n 0 ≠ 46) :
    Bs.numberAt g l = some (Bs.num 1 (g * Bs.value (l.take n)), l.drop n) := by
  unfold Bs.numberAt
  simp only [← hn]
  rw [if_neg (by omega)]
  cases hd : l.drop n with
  | nil => rfl
  | cons c t =>
    have hl : n < l.length := by
      rcases Nat.lt_or_ge n l.length with h | h
      · exact h
      · rw [List.drop_eq_nil_of_le h] at hd; cases hd
    have hc : l.getD n 0 = c := by
      have := List.drop_eq_getElem_cons hl
      rw [hd] at this
      injection this with e _
      rw [List.getD_eq_getElem?_getD, List.getElem?_eq_getElem hl]; exact e.symm
    rcases hr with h | ⟨_, h⟩
    · omega
    · rw [hc] at h
      split
      · rename_i heq; injection heq with e _; exact absurd e h
      · rfl
theorem drop_at {l : Bs.Bytes} {n : Nat} (hl : n < l.length) (h : l.getD n 0 = 46) : l.drop n = 46 :: l.drop (n + 1) := by
  have := List.drop_eq_getElem_cons hl
  rw [this]
  rw [List.getD_eq_getElem?_getD, List.getElem?_eq_getElem hl] at h
  have h' : l[n] = 46 := h
  rw [h']
theorem numberAt_none {g : Int} {l : Bs.Bytes} {n k : Nat} (hn : n = Bs.run Bs.digit l) (hl : n < l.length) (h : l.getD n 0 = 46) (hk : k = Bs.run Bs.digit (l.drop (n + 1)))
    (hb : 12 < n ∨ k < 1 ∨ 3 < k) : Bs.numberAt g l = none := by
  unfold Bs.numberAt
  simp only [← hn]
  split
  · rfl
  · rw [drop_at hl h]
    simp only [← hk]
    rw [if_pos hb]
theorem numberAt_dec {g : Int} {l : Bs.Bytes} {n k : Nat} (hn : n = Bs.run Bs.digit l) (h1 : 1 ≤ n) (hl : n < l.length) (h : l.getD n 0 = 46) (hk : k = Bs.run Bs.digit (l.drop (n + 1)))
    (hb1 : n ≤ 12) (hb2 : 1 ≤ k) (hb3 : k ≤ 3) :
    Bs.numberAt g l = some (Bs.num 2 (g * (1000 * (Bs.value (l.take n) : Int) + Bs.value (((l.drop (n + 1)).take k ++ [48, 48]).take 3))), l.drop (n + 1 + k)) := by
  unfold Bs.numberAt
  simp only [← hn]
  rw [if_neg (by omega), drop_at hl h]
  simp only [← hk]
  rw [if_neg (by omega), List.drop_drop]
theorem part_digits {l : Bs.Bytes} : ∀ c ∈ ((l.take (Bs.run Bs.digit l) ++ [48, 48]).take 3), Bs.digit c = true := by
  intro c hc
  have := List.mem_of_mem_take hc
  rw [List.mem_append] at this
  rcases this with h | h
  · exact run_take _ _ c h
  · simp at h; rw [h]; decide +kernel
theorem ba_ext {a b : ByteArray} (h : a.data.toList = b.data.toList) : a = b := by
  obtain ⟨⟨x⟩⟩ := a; obtain ⟨⟨y⟩⟩ := b; simp at h; rw [h]
theorem ba_mk (a : ByteArray) : (⟨a.data.toList.toArray⟩ : ByteArray) = a := ba_ext (by simp)
theorem ba_mk' {a : ByteArray} {l : Bs.Bytes} (h : a.data.toList = l) : a = ⟨l.toArray⟩ := ba_ext (by simp [h])


set_option maxHeartbeats 1000000 in
theorem number_plus (s : ByteArray) (w : World) (hs : s.size ≤ maxLen) (h0 : 0 < s.size) (hm : s[0] ≠ 45) :
    Calls Tryz.prog 69 #[.string s] w fun e w' => e = .returned (readV (Bs.numberAt (1) s.data.toList)) ∧ Below w.heap.size w w' := by
  unfold maxLen at hs
  have hc : ((s[0].toNat : Int) == 45) = false := (bneU8 (a := s[0]) (b := 45)).2 hm
  clear hm
  go_enter Tryz.func69, Tryz.ntmps69
  go_wp2_with fail
  obtain ⟨n, hn⟩ : ∃ n, n = Bs.run Bs.digit s.data.toList := ⟨_, rfl⟩
  have HN := Lib.hid hn
  have hnl : n ≤ s.size := by
    have := run_le Bs.digit s.data.toList
    rw [hn]; simpa using this
  have hUl : s.data.toList.length = s.size := by simp
  have HUL := Lib.hid hUl
  clear hn hUl
  refine (run_digit _ _ (by unfold maxLen; omega)).mono ?_
  rintro e w' ⟨rfl, rfl⟩
  rw [← HN.out]
  by_cases hbad : n < 1 ∨ 15 < n
  · go_wp2_with fail
    all_goals refine bodyPost_ret (v := .tuple #[.agg #[.int .u8 0, .int .i64 0, S [], .bool false], S [], .int .i64 120]) (by simp [results, Tryz.results69, go_sem]) rfl ⟨?_, ((Below.refl _ _).alloc (Nat.le_refl _) _)⟩
    all_goals (rw [numberAt_bad (by rw [← HN.out]; exact hbad)]; rfl)
  · obtain ⟨h1, h15⟩ : 1 ≤ n ∧ n ≤ 15 := by omega
    clear hbad
    obtain ⟨t, ht⟩ : ∃ t, t = s.extract 0 n := ⟨_, rfl⟩
    have htl : t.data.toList = s.data.toList.take n := by rw [ht, Lib.extract_data]; simp
    have hts : t.size = n := by
      have : t.data.toList.length = t.size := by simp
      rw [← this, htl]; simp; omega
    go_wp2_with fail
    rw [← ht]
    have hrun : ∀ c ∈ t.data.toList, Bs.digit c = true := by rw [htl, HN.out]; exact run_take _ _
    have HR := Lib.hid hrun
    have HTL := Lib.hid htl
    have HTS := Lib.hid hts
    clear hrun ht htl hts
    refine (atoi_calls t _ HR.out (by rw [HTS.out]; omega) (by rw [HTS.out]; omega)).mono ?_
    rintro e w1 ⟨rfl, hb⟩
    have hc1 : ∀ o, w1.cell? ⟨w.heap.size, o, none⟩ = _ := fun o => hb.cell (p := ⟨w.heap.size, o, none⟩) (by simp)
    have hf1 : ∀ o, w1.frozen? ⟨w.heap.size, o, none⟩ = _ := fun o => hb.frozen (p := ⟨w.heap.size, o, none⟩) (by simp)
    have hb2 : Below w.heap.size w w1 := (((Below.refl _ _).alloc (Nat.le_refl _) _)).trans (hb.mono (by simp))
    have hv : Bs.value t.data.toList < 1000000000000000 := by
      have hv1 := value_le _ HR.out
      have hv2 : 10 ^ t.data.toList.length ≤ 10 ^ 15 := Nat.pow_le_pow_right (by omega) (by rw [HTL.out, List.length_take]; omega)
      exact Nat.lt_of_lt_of_le hv1 hv2
    have hb3 : w.heap.size < w1.heap.size := by have := hb.size; simp at this; omega
    clear hb
    by_cases hend : n = s.size
    · have he1 : ((n : Int) == (s.size : Int)) = true := by simp [hend]
      have HE := Lib.hid hend
      clear hend
      go_wp2_with fail
      go_region
      go_wp2_with fail
      refine bodyPost_ret (v := .tuple #[.agg #[.int .u8 1, .int .i64 (1 * (Bs.value t.data.toList : Int)), S [], .bool false], S (s.data.toList.drop n), .int .i64 0]) ?_ rfl ⟨?_, ?_⟩
      · simp [results, Tryz.results69, go_sem, hc1]
        exact ba_mk' (Lib.extract_to_end _ _)
      · rw [numberAt_int HN.out h1 h15 (.inl (HE.out.trans HUL.out.symm)), ← HTL.out]; rfl
      · repeat' (with_reducible first | exact hb2 | exact Nat.le_refl _ | refine below_set ?_ ?_ | refine below_drew ?_)
    · have he1 : ((n : Int) == (s.size : Int)) = false := by simp; omega
      have hlt : n < s.size := by omega
      clear hend
      by_cases hd : s[n] = 46
      · have he2 : ((s[n].toNat : Int) != 46) = false := by
          have h' : ((s[n].toNat : Int) == 46) = true := (beqU8 (a := s[n]) (b := 46)).2 hd
          simp [bne, h']
        have HD := Lib.hid hd
        have HG := Lib.hid (ba_get s n hlt)
        clear hd
        obtain ⟨v, hvx⟩ : ∃ v, v = s.extract (n + 1) s.size := ⟨_, rfl⟩
        have hvl : v.data.toList = s.data.toList.drop (n + 1) := by rw [hvx, Lib.extract_to_end]
        have hvs : v.size ≤ s.size := by
          have e1 : v.data.toList.length = v.size := by simp
          rw [← e1, hvl, List.length_drop, HUL.out]; omega
        have HV := Lib.hid hvx
        have HVL := Lib.hid hvl
        clear hvx hvl
        obtain ⟨k, hk⟩ : ∃ k, k = Bs.run Bs.digit v.data.toList := ⟨_, rfl⟩
        have HK := Lib.hid hk
        have hkl : n + 1 + k ≤ s.size := by
          have h1 := run_le Bs.digit v.data.toList
          rw [hk]
          rw [HVL.out, List.length_drop, HUL.out, ← HVL.out] at h1
          omega
        clear hk
        go_wp2_with fail
        rw [← HV.out]
        refine (run_digit _ _ (by unfold maxLen; omega)).mono ?_
        rintro e w' ⟨rfl, rfl⟩
        rw [← HK.out]
        by_cases hbad : 12 < n ∨ k < 1 ∨ 3 < k
        · go_wp2_with fail
          all_goals refine bodyPost_ret (v := .tuple #[.agg #[.int .u8 0, .int .i64 0, S [], .bool false], S [], .int .i64 120]) (by simp [results, Tryz.results69, go_sem, hc1]) rfl ⟨?_, ?_⟩
          all_goals first
            | (rw [numberAt_none HN.out (by rw [HUL.out]; exact hlt) (by rw [← HG.out]; exact HD.out) (by rw [← HVL.out]; exact HK.out) hbad]; rfl)
            | (repeat' (with_reducible first | exact hb2 | exact Nat.le_refl _ | refine below_set ?_ ?_ | refine below_drew ?_))
        · obtain ⟨h12, hk1, hk3⟩ : n ≤ 12 ∧ 1 ≤ k ∧ k ≤ 3 := by omega
          clear hbad
          obtain ⟨p, hp⟩ : ∃ p, p = (s.extract (n + 1) (n + 1 + k) ++ ⟨#[48, 48]⟩).extract 0 3 := ⟨_, rfl⟩
          have hpl : p.data.toList = ((v.data.toList.take k ++ [48, 48]).take 3) := by
            rw [hp, Lib.extract_data, ba_append, Lib.extract_data, HVL.out]; simp
          have hpd : ∀ c ∈ p.data.toList, Bs.digit c = true := by rw [hpl, HK.out]; exact part_digits
          have hps : p.size = 3 := by
            have e1 : p.data.toList.length = p.size := by simp
            rw [← e1, hpl]
            have := run_le Bs.digit v.data.toList
            rw [← HK.out] at this
            simp only [List.length_take, List.length_append, List.length_cons, List.length_nil]; omega
          have HP := Lib.hid hp
          have HPL := Lib.hid hpl
          have HPD := Lib.hid hpd
          have HPS := Lib.hid hps
          clear hp hpl hpd hps
          go_wp2_with fail
          rw [← HP.out]
          refine (atoi_calls p _ HPD.out (by rw [HPS.out]; omega) (by rw [HPS.out]; omega)).mono ?_
          rintro e w2 ⟨rfl, hbb⟩
          have hc2 : ∀ o, w2.cell? ⟨w.heap.size, o, none⟩ = _ := fun o => hbb.cell (p := ⟨w.heap.size, o, none⟩) (by have := hb3; omega)
          have hf2 : ∀ o, w2.frozen? ⟨w.heap.size, o, none⟩ = _ := fun o => hbb.frozen (p := ⟨w.heap.size, o, none⟩) (by have := hb3; omega)
          have hb4 : Below w.heap.size w w2 := hb2.trans (hbb.mono hb2.size)
          have hpv : Bs.value p.data.toList < 1000 := by
            have hv1 := value_le _ HPD.out
            have e1 : p.data.toList.length = 3 := by have : p.data.toList.length = p.size := by simp
                                                     rw [this, HPS.out]
            rw [e1] at hv1
            exact hv1
          clear hbb
          go_wp2_with fail
          go_region
          go_wp2_with fail
          refine bodyPost_ret (v := .tuple #[.agg #[.int .u8 2, .int .i64 (1 * (1000 * (Bs.value t.data.toList : Int) + (Bs.value p.data.toList : Int))), S [], .bool false], S (s.data.toList.drop (n + 1 + k)), .int .i64 0]) ?_ rfl ⟨?_, ?_⟩
          · simp [results, Tryz.results69, go_sem, hc1, hc2]
            exact ba_mk' (Lib.extract_to_end _ _)
          · rw [numberAt_dec HN.out h1 (by rw [HUL.out]; exact hlt) (by rw [← HG.out]; exact HD.out) (by rw [← HVL.out]; exact HK.out) h12 hk1 hk3, ← HTL.out, ← HVL.out, ← HPL.out]; rfl
          · repeat' (with_reducible first | exact hb4 | exact Nat.le_refl _ | refine below_set ?_ ?_ | refine below_drew ?_)
      · have he2 : ((s[n].toNat : Int) != 46) = true := by
          have h := (bneU8 (a := s[n]) (b := 46)).2 hd
          have h' : ((s[n].toNat : Int) == 46) = false := h
          simp [bne, h']
        have HD := Lib.hid hd
        have HG := Lib.hid (ba_get s n hlt)
        clear hd
        go_wp2_with fail
        go_region
        go_wp2_with fail
        refine bodyPost_ret (v := .tuple #[.agg #[.int .u8 1, .int .i64 (1 * (Bs.value t.data.toList : Int)), S [], .bool false], S (s.data.toList.drop n), .int .i64 0]) ?_ rfl ⟨?_, ?_⟩
        · simp [results, Tryz.results69, go_sem, hc1]
          exact ba_mk' (Lib.extract_to_end _ _)
        · rw [numberAt_int HN.out h1 h15 (.inr ⟨by rw [HUL.out]; exact hlt, by rw [← HG.out]; exact HD.out⟩), ← HTL.out]; rfl
        · repeat' (with_reducible first | exact hb2 | exact Nat.le_refl _ | refine below_set ?_ ?_ | refine below_drew ?_)

set_option maxHeartbeats 1000000 in
theorem number_minus (s : ByteArray) (w : World) (hs : s.size ≤ maxLen) (h0 : 0 < s.size) (hm : s[0] = 45) :
    Calls Tryz.prog 69 #[.string s] w fun e w' => e = .returned (readV (Bs.numberAt (-1) (s.data.toList.drop 1))) ∧ Below w.heap.size w w' := by
  unfold maxLen at hs
  have hc : ((s[0].toNat : Int) == 45) = true := (beqU8 (a := s[0]) (b := 45)).2 hm
  clear hm
  obtain ⟨u, hu⟩ : ∃ u, u = s.extract 1 s.size := ⟨_, rfl⟩
  have hul : u.data.toList = s.data.toList.drop 1 := by rw [hu, Lib.extract_to_end]
  have husz : u.size ≤ s.size := by
    have e1 : u.data.toList.length = u.size := by simp
    have e2 : s.data.toList.length = s.size := by simp
    rw [← e1, hul, List.length_drop]; omega
  have HUX := Lib.hid hul
  rw [← hul]
  have HU := Lib.hid hu
  clear hu hul
  go_enter Tryz.func69, Tryz.ntmps69
  go_wp2_with fail
  go_region
  go_wp2_with fail
  rw [← HU.out]
  obtain ⟨n, hn⟩ : ∃ n, n = Bs.run Bs.digit u.data.toList := ⟨_, rfl⟩
  have HN := Lib.hid hn
  have hnl : n ≤ u.size := by
    have := run_le Bs.digit u.data.toList
    rw [hn]; simpa using this
  have hUl : u.data.toList.length = u.size := by simp
  have HUL := Lib.hid hUl
  clear hn hUl
  refine (run_digit _ _ (by unfold maxLen; omega)).mono ?_
  rintro e w' ⟨rfl, rfl⟩
  rw [← HN.out]
  by_cases hbad : n < 1 ∨ 15 < n
  · go_wp2_with fail
    all_goals refine bodyPost_ret (v := .tuple #[.agg #[.int .u8 0, .int .i64 0, S [], .bool false], S [], .int .i64 120]) (by simp [results, Tryz.results69, go_sem]) rfl ⟨?_, ((Below.refl _ _).alloc (Nat.le_refl _) _).drew⟩
    all_goals (rw [numberAt_bad (by rw [← HN.out]; exact hbad)]; rfl)
  · obtain ⟨h1, h15⟩ : 1 ≤ n ∧ n ≤ 15 := by omega
    clear hbad
    obtain ⟨t, ht⟩ : ∃ t, t = u.extract 0 n := ⟨_, rfl⟩
    have htl : t.data.toList = u.data.toList.take n := by rw [ht, Lib.extract_data]; simp
    have hts : t.size = n := by
      have : t.data.toList.length = t.size := by simp
      rw [← this, htl]; simp; omega
    go_wp2_with fail
    rw [← ht]
    have hrun : ∀ c ∈ t.data.toList, Bs.digit c = true := by rw [htl, HN.out]; exact run_take _ _
    have HR := Lib.hid hrun
    have HTL := Lib.hid htl
    have HTS := Lib.hid hts
    clear hrun ht htl hts
    refine (atoi_calls t _ HR.out (by rw [HTS.out]; omega) (by rw [HTS.out]; omega)).mono ?_
    rintro e w1 ⟨rfl, hb⟩
    have hc1 : ∀ o, w1.cell? ⟨w.heap.size, o, none⟩ = _ := fun o => hb.cell (p := ⟨w.heap.size, o, none⟩) (by simp)
    have hf1 : ∀ o, w1.frozen? ⟨w.heap.size, o, none⟩ = _ := fun o => hb.frozen (p := ⟨w.heap.size, o, none⟩) (by simp)
    have hb2 : Below w.heap.size w w1 := (((Below.refl _ _).alloc (Nat.le_refl _) _).drew).trans (hb.mono (by simp))
    have hv : Bs.value t.data.toList < 1000000000000000 := by
      have hv1 := value_le _ HR.out
      have hv2 : 10 ^ t.data.toList.length ≤ 10 ^ 15 := Nat.pow_le_pow_right (by omega) (by rw [HTL.out, List.length_take]; omega)
      exact Nat.lt_of_lt_of_le hv1 hv2
    have hb3 : w.heap.size < w1.heap.size := by have := hb.size; simp at this; omega
    clear hb
    by_cases hend : n = u.size
    · have he1 : ((n : Int) == (u.size : Int)) = true := by simp [hend]
      have HE := Lib.hid hend
      clear hend
      go_wp2_with fail
      go_region
      go_wp2_with fail
      refine bodyPost_ret (v := .tuple #[.agg #[.int .u8 1, .int .i64 (-1 * (Bs.value t.data.toList : Int)), S [], .bool false], S (u.data.toList.drop n), .int .i64 0]) ?_ rfl ⟨?_, ?_⟩
      · simp [results, Tryz.results69, go_sem, hc1]
        exact ba_mk' (Lib.extract_to_end _ _)
      · rw [numberAt_int HN.out h1 h15 (.inl (HE.out.trans HUL.out.symm)), ← HTL.out]; rfl
      · repeat' (with_reducible first | exact hb2 | exact Nat.le_refl _ | refine below_set ?_ ?_ | refine below_drew ?_)
    · have he1 : ((n : Int) == (u.size : Int)) = false := by simp; omega
      have hlt : n < u.size := by omega
      clear hend
      by_cases hd : u[n] = 46
      · have he2 : ((u[n].toNat : Int) != 46) = false := by
          have h' : ((u[n].toNat : Int) == 46) = true := (beqU8 (a := u[n]) (b := 46)).2 hd
          simp [bne, h']
        have HD := Lib.hid hd
        have HG := Lib.hid (ba_get u n hlt)
        clear hd
        obtain ⟨v, hvx⟩ : ∃ v, v = u.extract (n + 1) u.size := ⟨_, rfl⟩
        have hvl : v.data.toList = u.data.toList.drop (n + 1) := by rw [hvx, Lib.extract_to_end]
        have hvs : v.size ≤ u.size := by
          have e1 : v.data.toList.length = v.size := by simp
          rw [← e1, hvl, List.length_drop, HUL.out]; omega
        have HV := Lib.hid hvx
        have HVL := Lib.hid hvl
        clear hvx hvl
        obtain ⟨k, hk⟩ : ∃ k, k = Bs.run Bs.digit v.data.toList := ⟨_, rfl⟩
        have HK := Lib.hid hk
        have hkl : n + 1 + k ≤ u.size := by
          have h1 := run_le Bs.digit v.data.toList
          rw [hk]
          rw [HVL.out, List.length_drop, HUL.out, ← HVL.out] at h1
          omega
        clear hk
        go_wp2_with fail
        rw [← HV.out]
        refine (run_digit _ _ (by unfold maxLen; omega)).mono ?_
        rintro e w' ⟨rfl, rfl⟩
        rw [← HK.out]
        by_cases hbad : 12 < n ∨ k < 1 ∨ 3 < k
        · go_wp2_with fail
          all_goals refine bodyPost_ret (v := .tuple #[.agg #[.int .u8 0, .int .i64 0, S [], .bool false], S [], .int .i64 120]) (by simp [results, Tryz.results69, go_sem, hc1]) rfl ⟨?_, ?_⟩
          all_goals first
            | (rw [numberAt_none HN.out (by rw [HUL.out]; exact hlt) (by rw [← HG.out]; exact HD.out) (by rw [← HVL.out]; exact HK.out) hbad]; rfl)
            | (repeat' (with_reducible first | exact hb2 | exact Nat.le_refl _ | refine below_set ?_ ?_ | refine below_drew ?_))
        · obtain ⟨h12, hk1, hk3⟩ : n ≤ 12 ∧ 1 ≤ k ∧ k ≤ 3 := by omega
          clear hbad
          obtain ⟨p, hp⟩ : ∃ p, p = (u.extract (n + 1) (n + 1 + k) ++ ⟨#[48, 48]⟩).extract 0 3 := ⟨_, rfl⟩
          have hpl : p.data.toList = ((v.data.toList.take k ++ [48, 48]).take 3) := by
            rw [hp, Lib.extract_data, ba_append, Lib.extract_data, HVL.out]; simp
          have hpd : ∀ c ∈ p.data.toList, Bs.digit c = true := by rw [hpl, HK.out]; exact part_digits
          have hps : p.size = 3 := by
            have e1 : p.data.toList.length = p.size := by simp
            rw [← e1, hpl]
            have := run_le Bs.digit v.data.toList
            rw [← HK.out] at this
            simp only [List.length_take, List.length_append, List.length_cons, List.length_nil]; omega
          have HP := Lib.hid hp
          have HPL := Lib.hid hpl
          have HPD := Lib.hid hpd
          have HPS := Lib.hid hps
          clear hp hpl hpd hps
          go_wp2_with fail
          rw [← HP.out]
          refine (atoi_calls p _ HPD.out (by rw [HPS.out]; omega) (by rw [HPS.out]; omega)).mono ?_
          rintro e w2 ⟨rfl, hbb⟩
          have hc2 : ∀ o, w2.cell? ⟨w.heap.size, o, none⟩ = _ := fun o => hbb.cell (p := ⟨w.heap.size, o, none⟩) (by have := hb3; omega)
          have hf2 : ∀ o, w2.frozen? ⟨w.heap.size, o, none⟩ = _ := fun o => hbb.frozen (p := ⟨w.heap.size, o, none⟩) (by have := hb3; omega)
          have hb4 : Below w.heap.size w w2 := hb2.trans (hbb.mono hb2.size)
          have hpv : Bs.value p.data.toList < 1000 := by
            have hv1 := value_le _ HPD.out
            have e1 : p.data.toList.length = 3 := by have : p.data.toList.length = p.size := by simp
                                                     rw [this, HPS.out]
            rw [e1] at hv1
            exact hv1
          clear hbb
          go_wp2_with fail
          go_region
          go_wp2_with fail
          refine bodyPost_ret (v := .tuple #[.agg #[.int .u8 2, .int .i64 (-1 * (1000 * (Bs.value t.data.toList : Int) + (Bs.value p.data.toList : Int))), S [], .bool false], S (u.data.toList.drop (n + 1 + k)), .int .i64 0]) ?_ rfl ⟨?_, ?_⟩
          · simp [results, Tryz.results69, go_sem, hc1, hc2]
            exact ba_mk' (Lib.extract_to_end _ _)
          · rw [numberAt_dec HN.out h1 (by rw [HUL.out]; exact hlt) (by rw [← HG.out]; exact HD.out) (by rw [← HVL.out]; exact HK.out) h12 hk1 hk3, ← HTL.out, ← HVL.out, ← HPL.out]; rfl
          · repeat' (with_reducible first | exact hb4 | exact Nat.le_refl _ | refine below_set ?_ ?_ | refine below_drew ?_)
      · have he2 : ((u[n].toNat : Int) != 46) = true := by
          have h := (bneU8 (a := u[n]) (b := 46)).2 hd
          have h' : ((u[n].toNat : Int) == 46) = false := h
          simp [bne, h']
        have HD := Lib.hid hd
        have HG := Lib.hid (ba_get u n hlt)
        clear hd
        go_wp2_with fail
        go_region
        go_wp2_with fail
        refine bodyPost_ret (v := .tuple #[.agg #[.int .u8 1, .int .i64 (-1 * (Bs.value t.data.toList : Int)), S [], .bool false], S (u.data.toList.drop n), .int .i64 0]) ?_ rfl ⟨?_, ?_⟩
        · simp [results, Tryz.results69, go_sem, hc1]
          exact ba_mk' (Lib.extract_to_end _ _)
        · rw [numberAt_int HN.out h1 h15 (.inr ⟨by rw [HUL.out]; exact hlt, by rw [← HG.out]; exact HD.out⟩), ← HTL.out]; rfl
        · repeat' (with_reducible first | exact hb2 | exact Nat.le_refl _ | refine below_set ?_ ?_ | refine below_drew ?_)

end Go.Proofs.YtgamebffdcpjaaaGreatDoor
