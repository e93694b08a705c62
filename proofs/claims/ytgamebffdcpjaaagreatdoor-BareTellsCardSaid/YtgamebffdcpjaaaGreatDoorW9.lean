/- Walks: bytes by sixes between colons; any item that a text begins with. -/
import Derived.Test.YtgamebffdcpjaaaGreatDoorW5
import Derived.Test.YtgamebffdcpjaaaGreatDoorW7
import Derived.Test.YtgamebffdcpjaaaGreatDoorW8
import Derived.Lib.IndexMore
import Derived.Deep.Draws
namespace Go.Proofs.YtgamebffdcpjaaaGreatDoor
open Go.RowKit
set_option maxRecDepth 100000

theorem index58 (l : Bs.Bytes) : Lib.index l [58] = match l.dropWhile (· != 58) with | [] => -1 | _ => ((l.takeWhile (· != 58)).length : Int) := by
  induction l with
  | nil => rfl
  | cons c t ih =>
    rw [Lib.index, List.dropWhile_cons, List.takeWhile_cons]
    by_cases hc : c = 58
    · subst hc; rfl
    · have h1 : (c != 58) = true := by simpa using hc
      have h2 : [58].isPrefixOf (c :: t) = false := by simp [List.isPrefixOf]; exact fun h => hc h.symm
      rw [if_neg (by rw [h2]; simp), if_pos h1, if_pos h1, ih]
      cases h : t.dropWhile (· != 58) with
      | nil => simp
      | cons x r => simp
def cutV (l : Bs.Bytes) : Bs.Bytes × Bs.Bytes × Bool := match Bs.cutAt l with | some (i, r) => (i, r, true) | none => (l, [], false)
theorem take_while_len (p : UInt8 → Bool) (l : Bs.Bytes) : l.take (l.takeWhile p).length = l.takeWhile p := take_run p l
theorem drop_while_len (p : UInt8 → Bool) (l : Bs.Bytes) : l.drop (l.takeWhile p).length = l.dropWhile p := drop_run p l
theorem cut58 (l : Bs.Bytes) : Lib.cut l [58] = cutV l := by
  unfold Lib.cut cutV Bs.cutAt
  rw [index58]
  cases h : l.dropWhile (· != 58) with
  | nil => simp
  | cons c r =>
    simp only
    rw [if_pos (by omega), Int.toNat_natCast, take_while_len, ← List.drop_drop, drop_while_len, h]
    simp

theorem cut_calls (s : ByteArray) (w : World) (hw : Env w) (hs : s.size ≤ 4000000000) :
    Calls Tryz.prog 137 #[.string s, .string ⟨#[58]⟩] w fun e w' => e = .returned (.tuple #[S (cutV s.data.toList).1, S (cutV s.data.toList).2.1, .bool (cutV s.data.toList).2.2]) ∧ Below w.heap.size w w' := by
  obtain ⟨m, hm⟩ := hw.most
  refine (Tryz.strings_Cut s ⟨#[58]⟩ m w (by omega) hm).mono ?_
  rintro e w' ⟨rfl, n, rfl⟩
  refine ⟨?_, ⟨rfl, rfl, rfl, Nat.le_refl _, fun _ _ => rfl⟩⟩
  have e : (⟨#[58]⟩ : ByteArray).data.toList = [58] := rfl
  rw [e, cut58]

theorem cut_len (l : Bs.Bytes) : (cutV l).1.length ≤ l.length := by
  unfold cutV Bs.cutAt
  cases h : l.dropWhile (· != 58) with
  | nil => simp
  | cons c r =>
    simp only
    have := run_le (· != 58) l
    exact this
theorem packed_eq (l : Bs.Bytes) : Bs.packed l = if (cutV l).2.2 = true then (match Bs.unsix (cutV l).1 with | some x => some (Bs.txt 5 x, (cutV l).2.1) | none => none) else none := by
  unfold Bs.packed cutV
  cases h : Bs.cutAt l with
  | none => rfl
  | some p => obtain ⟨i, r⟩ := p; rfl

set_option maxHeartbeats 1000000 in
theorem packed_calls (s : ByteArray) (w : World) (hw : Env w) (hs : s.size ≤ 4000000000) (h0 : 0 < s.size) :
    Calls Tryz.prog 73 #[.string s] w fun e w' => e = .returned (readV (Bs.packed (s.data.toList.drop 1))) ∧ Below w.heap.size w w' := by
  obtain ⟨u, hu⟩ : ∃ u, u = s.extract 1 s.size := ⟨_, rfl⟩
  have hul : u.data.toList = s.data.toList.drop 1 := by rw [hu, Lib.extract_to_end]
  have husz : u.size ≤ s.size := by
    have e1 : u.data.toList.length = u.size := by simp
    have e2 : s.data.toList.length = s.size := by simp
    rw [← e1, hul, List.length_drop]; omega
  rw [← hul]
  have HU := Lib.hid hu
  have hcl := cut_len u.data.toList
  have HP := Lib.hid (packed_eq u.data.toList)
  clear hu hul
  have hw0 : Env (w.alloc (.cells #[.int .u8 0, .int .i64 0, .string ⟨#[]⟩, .bool false] 23)) := hw.below ((Below.refl _ _).alloc (Nat.le_refl _) _)
  have HW0 := Lib.hid hw0
  clear hw0
  go_enter Tryz.func73, Tryz.ntmps73
  go_wp2_with fail
  rw [← HU.out]
  refine (cut_calls u _ HW0.out (by omega)).mono ?_
  rintro e w1 ⟨rfl, hb⟩
  obtain ⟨p, r, f, hp⟩ : ∃ p r f, cutV u.data.toList = (p, r, f) := ⟨_, _, _, rfl⟩
  have HC := Lib.hid hp
  rw [hp] at hcl
  have hpl : p.length ≤ u.size := by simpa using hcl
  clear hcl
  simp only [hp]
  clear hp
  have hc1 : ∀ o, w1.cell? ⟨w.heap.size, o, none⟩ = _ := fun o => hb.cell (p := ⟨w.heap.size, o, none⟩) (by simp)
  have hf1 : ∀ o, w1.frozen? ⟨w.heap.size, o, none⟩ = _ := fun o => hb.frozen (p := ⟨w.heap.size, o, none⟩) (by simp)
  have hb2 : Below w.heap.size w w1 := ((Below.refl _ _).alloc (Nat.le_refl _) _).trans (hb.mono (by simp))
  have hb3 : w.heap.size < w1.heap.size := by have := hb.size; simp at this; omega
  clear hb
  go_wp2_with fail
  refine (unsix_calls ⟨p.toArray⟩ w1 (by show p.toArray.size ≤ _; simp; omega)).mono ?_
  rintro e w2 ⟨rfl, hb⟩
  have hc2 : ∀ o, w2.cell? ⟨w.heap.size, o, none⟩ = _ := fun o => hb.cell (p := ⟨w.heap.size, o, none⟩) hb3
  have hf2 : ∀ o, w2.frozen? ⟨w.heap.size, o, none⟩ = _ := fun o => hb.frozen (p := ⟨w.heap.size, o, none⟩) hb3
  have hb4 : Below w.heap.size w w2 := hb2.trans (hb.mono hb2.size)
  have hb5 : w.heap.size < w2.heap.size := Nat.lt_of_lt_of_le hb3 hb.size
  clear hb
  cases hx : Bs.unsix p with
  | none =>
    simp only [unsixV]
    have HX := Lib.hid hx
    clear hx
    cases f
    all_goals go_wp2_with fail
    all_goals refine bodyPost_ret (v := readV none) (by simp [results, Tryz.results73, go_sem, hc1, hc2, readV]) rfl ⟨?_, ?_⟩
    all_goals first
      | (rw [HP.out, HC.out]; simp [HX.out]; done)
      | (repeat' (with_reducible first | exact hb4 | exact Nat.le_refl _ | refine below_set ?_ ?_ | refine below_drew ?_))
  | some x =>
    simp only [unsixV]
    have HX := Lib.hid hx
    clear hx
    cases f
    · go_wp2_with fail
      refine bodyPost_ret (v := readV none) (by simp [results, Tryz.results73, go_sem, hc1, hc2, readV]) rfl ⟨?_, ?_⟩
      · rw [HP.out, HC.out]; simp
      · repeat' (with_reducible first | exact hb4 | exact Nat.le_refl _ | refine below_set ?_ ?_ | refine below_drew ?_)
    · go_wp2_with fail
      refine bodyPost_ret (v := readV (some (Bs.txt 5 x, r))) (by simp [results, Tryz.results73, go_sem, hc1, hc2, readV, bareV, Bs.txt]) rfl ⟨?_, ?_⟩
      · rw [HP.out, HC.out]; simp [HX.out]
      · repeat' (with_reducible first | exact hb4 | exact Nat.le_refl _ | refine below_set ?_ ?_ | refine below_drew ?_)

end Go.Proofs.YtgamebffdcpjaaaGreatDoor
