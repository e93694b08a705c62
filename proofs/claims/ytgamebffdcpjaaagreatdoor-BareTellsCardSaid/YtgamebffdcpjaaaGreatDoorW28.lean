/- Walks: bytes by sixes, as package bare tells them (the loop). -/
import Derived.Test.YtgamebffdcpjaaaGreatDoorW27
namespace Go.Proofs.YtgamebffdcpjaaaGreatDoor
open Go.RowKit Go.Shelf
attribute [local go_sem] Oper.semAt_some
set_option maxRecDepth 100000

theorem Bld.own {b B : Nat} {f : List Bs.Three → List Value} {C : Nat} (hC : B ≤ C) : OwnFrom C (fun pre W => Bld W b B (f pre)) := by
  intro pre A A' row h hg hr
  obtain ⟨p, v, hp, hb, hown, hlt, hn⟩ := h
  have hne : ∀ r, row = some r → r ≠ b := fun r e => by have := (hr r e).1; omega
  refine ⟨p, v, hp, (hg.block b (lt_of_block hb) (fun e => hne b e.symm rfl)).trans hb, hown.kept hg ?_, hlt, hn⟩
  rcases hown.2 with ⟨hv, _⟩ | ⟨g, cap, cur, hv, hB, hh, _⟩
  · left; rw [hv]; rfl
  · right
    rw [hv]
    intro e
    obtain ⟨_, o, ho, hc⟩ := hr g e.symm
    rw [hh] at ho
    injection ho with ho
    rw [← ho] at hc
    cases hc

theorem Bld.far {b B g : Nat} {bs : List Value} {A A' : World} (h : Bld A b B bs) (hg : A.grownBy A' (some g)) (hb : g ≠ b) (hB : g < B) : Bld A' b B bs := by
  obtain ⟨p, v, hp, hbk, hown, hlt, hn⟩ := h
  refine ⟨p, v, hp, (hg.block b (lt_of_block hbk) (fun e => hb (by cases e; rfl))).trans hbk, hown.kept hg (.inr ?_), hlt, hn⟩
  intro e
  have := (World.ownsRow.lt hown g e).1
  omega

theorem and63 (n : Nat) (hn : n < 4294967296) : bits .and .u32 (n : Int) 63 = ((n % 64 : Nat) : Int) := by
  have h := u32_and_nat n 63 hn (by omega)
  rw [nat_mask6] at h
  exact h

set_option maxHeartbeats 8000000 in
theorem sixes_calls (s : ByteArray) (w : World) (hs : s.size ≤ 4000000000) :
    Calls Tryz.prog 24 #[.string s] w fun e w' => e = .returned (S (Bs.sixes s.data.toList)) ∧ Below w.heap.size w w' := by
  refine (callsIn_wide (n := 6)).1 ?_
  refine callsIn_of_wp_marks Tryz.func24 rfl trivial ?_ rfl
  simp only [Tryz.ntmps24, List.size_toArray, List.length_cons, List.length_nil, Nat.reduceAdd, Nat.reduceSub, Array.replicate_succ, Array.replicate_zero, List.push_toArray, List.append_toArray, List.nil_append, List.cons_append]
  gi_wp2_with (refine ⟨trivial, ?_⟩; gi_at_call 85; refine (callsIn_wide.2 (threes_calls _ _)).mono ?_; rintro e w' ⟨rfl, rfl⟩)
  obtain ⟨W0, hW0⟩ : ∃ W0 : World, W0 = (w.alloc (.cells #[.pointer none, .slice none 0 0] 105)).alloc (.cells #[.string s] 9) := ⟨_, rfl⟩
  have z1 : (w.alloc (.cells #[.pointer none, .slice none 0 0] 105)).heap.size = w.heap.size + 1 := alloc_size _ _
  have z0 : W0.heap.size = w.heap.size + 2 := by rw [hW0, alloc_size, z1]
  have hb0 : Below w.heap.size w W0 := by rw [hW0]; exact ((Below.refl _ w).alloc (Nat.le_refl _) _).alloc (by omega) _
  have hwb : Bld W0 w.heap.size (w.heap.size + 2) (Lib.byteCells (Bs.fours [])) := by
    refine ⟨.pointer none, .slice none 0 0, .inl rfl, ?_, World.ownsRow_nil _ _ _ _, by omega, fun _ => rfl⟩
    rw [hW0]; exact (Whole.new w 105 #[.pointer none, .slice none 0 0]).alloc _
  have hwg : Whole W0 (w.heap.size + 1) 9 #[.string s] := by
    rw [hW0, ← z1]; exact Whole.new _ 9 _
  rw [← hW0]
  refine wpIn_rangeFunc_at (F := Fence.wide) rfl (by omega) (gf := 151) (lb := #[.pointer (some ⟨w.heap.size + 1, 0, none⟩)]) rfl trivial (enters_of Tryz.func151 (by kernel_rfl) rfl)
    (Rb := w.heap.size + 1) (by omega) (threes_seq s (w.heap.size + 1) 5 W0 (by omega) (by omega) hwg) (fun h k => k.trans h)
    (fun W l o o' hl _ _ _ => World.putObj_heap_other (by omega)) (Below.refl _ _) (fun _ => rfl)
    (fun pre W => Bld W w.heap.size (w.heap.size + 2) (Lib.byteCells (Bs.fours pre)) ∧ Below w.heap.size w W ∧ w.heap.size + 2 ≤ W.heap.size) ?own ?far ⟨hwb, hb0, by omega⟩
    (fun x a' _ => a' = { tmps := #[.string s, undef, .string ⟨#[]⟩, .pointer (some ⟨w.heap.size, 0, none⟩), .int .u32 (x.1.1 : Int), .int .i64 (x.1.2 : Int), undef, .string s, .func (.func 151) #[] #[.pointer (some ⟨w.heap.size + 1, 0, none⟩)], .int .u32 (x.1.1 : Int), .int .i64 (x.1.2 : Int), undef, undef, undef, undef, undef, undef, undef, undef, undef, undef, undef, undef, undef, undef, undef, undef, undef], defers := [] })
    (fun _ _ => ownFrom_pure _ _) ?assign ?body ?done
  case own =>
    rintro pre A A' row ⟨h1, h2, h3⟩ hg hr
    exact ⟨Bld.own (f := fun pre => Lib.byteCells (Bs.fours pre)) (by omega) pre A A' row h1 hg hr, h2.grown hg h2.size (fun k e => by have := (hr k e).1; omega), Nat.le_trans h3 hg.size⟩
  case far =>
    rintro pre A A' ⟨h1, h2, h3⟩ hg
    exact ⟨h1.far hg (by omega) (by omega), h2.grown hg h2.size (fun k e => by cases e; omega), Nat.le_trans h3 hg.size⟩
  case assign =>
    intro l pre x W K hi hK
    simp only [threeV]
    gi_wp2
    exact hK _ _ (KeepsFrom.refl _ _) rfl hi rfl
  case body =>
    rintro l pre x a' W hl hr ⟨h1, h2, h3⟩ rfl hlen
    have hfl : (Lib.byteCells (Bs.fours pre)).length ≤ 16000000100 := by rw [Lib.byteCells_length, Bs.fours_len]; omega
    obtain ⟨⟨N, h⟩, hN, hh1, hh3⟩ := x
    simp only at hN hh1 hh3 ⊢
    have A0 : bits .and .u32 ((N : Int) / 262144) 63 = (N : Int) / 262144 % 64 := by
      have h := and63 (N / 262144) (by omega)
      rw [show ((N / 262144 : Nat) : Int) = (N : Int) / 262144 from by omega] at h
      rw [h]; omega
    have A1 : bits .and .u32 ((N : Int) / 4096) 63 = (N : Int) / 4096 % 64 := by
      have h := and63 (N / 4096) (by omega)
      rw [show ((N / 4096 : Nat) : Int) = (N : Int) / 4096 from by omega] at h
      rw [h]; omega
    have A2 : bits .and .u32 ((N : Int) / 64) 63 = (N : Int) / 64 % 64 := by
      have h := and63 (N / 64) (by omega)
      rw [show ((N / 64 : Nat) : Int) = (N : Int) / 64 from by omega] at h
      rw [h]; omega
    have A3 : bits .and .u32 (N : Int) 63 = (N : Int) % 64 := by
      have h := and63 N (by omega)
      rw [h]; omega
    have n0 : 0 ≤ (N : Int) / 262144 % 64 := by omega
    have n1 : (N : Int) / 262144 % 64 < 64 := by omega
    have n2 : 0 ≤ (N : Int) / 4096 % 64 := by omega
    have n3 : (N : Int) / 4096 % 64 < 64 := by omega
    have n4 : 0 ≤ (N : Int) / 64 % 64 := by omega
    have n5 : (N : Int) / 64 % 64 < 64 := by omega
    have n6 : 0 ≤ (N : Int) % 64 := by omega
    have n7 : (N : Int) % 64 < 64 := by omega
    have e0 : ((N : Int) / 262144 % 64).toNat = N / 262144 % 64 := by omega
    have e1 : ((N : Int) / 4096 % 64).toNat = N / 4096 % 64 := by omega
    have e2 : ((N : Int) / 64 % 64).toNat = N / 64 % 64 := by omega
    have e3 : ((N : Int) % 64).toNat = N % 64 := by omega
    have E := Lib.hid (And.intro e0 (And.intro e1 (And.intro e2 e3)))
    clear e0 e1 e2 e3
    obtain rfl | rfl | rfl : h = 1 ∨ h = 2 ∨ h = 3 := by omega
    · have g0 : w.heap.size + 2 ≤ W.heap.size := h3
      have b0 := h1
      gi_wp2
      refine wpIn_loop_rounds 5 ?_
      rw [roundsIn_succ]
      gi_wp2
      refine ⟨trivial, ?_⟩
      refine (CallsIn.inRound l (callsIn_wide.2 (bwrite_calls _ _ _ _ _ b0 (by first | omega | (simp only [List.length_append, List.length_cons, List.length_nil]; omega)) g0))).mono ?_
      rintro e w1 ⟨rfl, b1, u1⟩
      have g1 : w.heap.size + 2 ≤ w1.heap.size := Nat.le_trans g0 u1.size
      gi_wp2
      rw [roundsIn_succ]
      gi_wp2
      refine ⟨trivial, ?_⟩
      refine (CallsIn.inRound l (callsIn_wide.2 (bwrite_calls _ _ _ _ _ b1 (by first | omega | (simp only [List.length_append, List.length_cons, List.length_nil]; omega)) g1))).mono ?_
      rintro e w2 ⟨rfl, b2, u2⟩
      have g2 : w.heap.size + 2 ≤ w2.heap.size := Nat.le_trans g1 u2.size
      gi_wp2
      rw [roundsIn_succ]
      gi_wp2
      refine ⟨trivial, ?_⟩
      refine (CallsIn.inRound l (callsIn_wide.2 (bwrite_calls _ _ _ _ _ b2 (by first | omega | (simp only [List.length_append, List.length_cons, List.length_nil]; omega)) g2))).mono ?_
      rintro e w3 ⟨rfl, b3, u3⟩
      have g3 : w.heap.size + 2 ≤ w3.heap.size := Nat.le_trans g2 u3.size
      gi_wp2
      rw [roundsIn_succ]
      gi_wp2
      refine ⟨trivial, ?_⟩
      refine (CallsIn.inRound l (callsIn_wide.2 (bwrite_calls _ _ _ _ _ b3 (by first | omega | (simp only [List.length_append, List.length_cons, List.length_nil]; omega)) g3))).mono ?_
      rintro e w4 ⟨rfl, b4, u4⟩
      have g4 : w.heap.size + 2 ≤ w4.heap.size := Nat.le_trans g3 u4.size
      gi_wp2
      rw [roundsIn_succ]
      gi_wp2
      have u := ((u1.trans u2).trans u3).trans u4
      refine ⟨u.others.from _, u.block _ (by omega) (by omega), ?_, h2.trans (u.below (by omega) (Nat.le_refl _)), g4⟩
      simp only [sixl_get, E.out.1, E.out.2.1, E.out.2.2.1, E.out.2.2.2, Bs.sx_mod] at b4
      simpa [Bs.fours_snoc, Lib.byteCells, Bs.four] using b4
    · have g0 : w.heap.size + 2 ≤ W.heap.size := h3
      have b0 := h1
      gi_wp2
      refine wpIn_loop_rounds 5 ?_
      rw [roundsIn_succ]
      gi_wp2
      refine ⟨trivial, ?_⟩
      refine (CallsIn.inRound l (callsIn_wide.2 (bwrite_calls _ _ _ _ _ b0 (by first | omega | (simp only [List.length_append, List.length_cons, List.length_nil]; omega)) g0))).mono ?_
      rintro e w1 ⟨rfl, b1, u1⟩
      have g1 : w.heap.size + 2 ≤ w1.heap.size := Nat.le_trans g0 u1.size
      gi_wp2
      rw [roundsIn_succ]
      gi_wp2
      refine ⟨trivial, ?_⟩
      refine (CallsIn.inRound l (callsIn_wide.2 (bwrite_calls _ _ _ _ _ b1 (by first | omega | (simp only [List.length_append, List.length_cons, List.length_nil]; omega)) g1))).mono ?_
      rintro e w2 ⟨rfl, b2, u2⟩
      have g2 : w.heap.size + 2 ≤ w2.heap.size := Nat.le_trans g1 u2.size
      gi_wp2
      rw [roundsIn_succ]
      gi_wp2
      refine ⟨trivial, ?_⟩
      refine (CallsIn.inRound l (callsIn_wide.2 (bwrite_calls _ _ _ _ _ b2 (by first | omega | (simp only [List.length_append, List.length_cons, List.length_nil]; omega)) g2))).mono ?_
      rintro e w3 ⟨rfl, b3, u3⟩
      have g3 : w.heap.size + 2 ≤ w3.heap.size := Nat.le_trans g2 u3.size
      gi_wp2
      rw [roundsIn_succ]
      gi_wp2
      refine ⟨trivial, ?_⟩
      refine (CallsIn.inRound l (callsIn_wide.2 (bwrite_calls _ _ _ _ _ b3 (by first | omega | (simp only [List.length_append, List.length_cons, List.length_nil]; omega)) g3))).mono ?_
      rintro e w4 ⟨rfl, b4, u4⟩
      have g4 : w.heap.size + 2 ≤ w4.heap.size := Nat.le_trans g3 u4.size
      gi_wp2
      rw [roundsIn_succ]
      gi_wp2
      have u := ((u1.trans u2).trans u3).trans u4
      refine ⟨u.others.from _, u.block _ (by omega) (by omega), ?_, h2.trans (u.below (by omega) (Nat.le_refl _)), g4⟩
      simp only [sixl_get, E.out.1, E.out.2.1, E.out.2.2.1, E.out.2.2.2, Bs.sx_mod] at b4
      simpa [Bs.fours_snoc, Lib.byteCells, Bs.four] using b4
    · have g0 : w.heap.size + 2 ≤ W.heap.size := h3
      have b0 := h1
      gi_wp2
      refine wpIn_loop_rounds 5 ?_
      rw [roundsIn_succ]
      gi_wp2
      refine ⟨trivial, ?_⟩
      refine (CallsIn.inRound l (callsIn_wide.2 (bwrite_calls _ _ _ _ _ b0 (by first | omega | (simp only [List.length_append, List.length_cons, List.length_nil]; omega)) g0))).mono ?_
      rintro e w1 ⟨rfl, b1, u1⟩
      have g1 : w.heap.size + 2 ≤ w1.heap.size := Nat.le_trans g0 u1.size
      gi_wp2
      rw [roundsIn_succ]
      gi_wp2
      refine ⟨trivial, ?_⟩
      refine (CallsIn.inRound l (callsIn_wide.2 (bwrite_calls _ _ _ _ _ b1 (by first | omega | (simp only [List.length_append, List.length_cons, List.length_nil]; omega)) g1))).mono ?_
      rintro e w2 ⟨rfl, b2, u2⟩
      have g2 : w.heap.size + 2 ≤ w2.heap.size := Nat.le_trans g1 u2.size
      gi_wp2
      rw [roundsIn_succ]
      gi_wp2
      refine ⟨trivial, ?_⟩
      refine (CallsIn.inRound l (callsIn_wide.2 (bwrite_calls _ _ _ _ _ b2 (by first | omega | (simp only [List.length_append, List.length_cons, List.length_nil]; omega)) g2))).mono ?_
      rintro e w3 ⟨rfl, b3, u3⟩
      have g3 : w.heap.size + 2 ≤ w3.heap.size := Nat.le_trans g2 u3.size
      gi_wp2
      rw [roundsIn_succ]
      gi_wp2
      refine ⟨trivial, ?_⟩
      refine (CallsIn.inRound l (callsIn_wide.2 (bwrite_calls _ _ _ _ _ b3 (by first | omega | (simp only [List.length_append, List.length_cons, List.length_nil]; omega)) g3))).mono ?_
      rintro e w4 ⟨rfl, b4, u4⟩
      have g4 : w.heap.size + 2 ≤ w4.heap.size := Nat.le_trans g3 u4.size
      gi_wp2
      rw [roundsIn_succ]
      gi_wp2
      have u := ((u1.trans u2).trans u3).trans u4
      refine ⟨u.others.from _, u.block _ (by omega) (by omega), ?_, h2.trans (u.below (by omega) (Nat.le_refl _)), g4⟩
      simp only [sixl_get, E.out.1, E.out.2.1, E.out.2.2.1, E.out.2.2.2, Bs.sx_mod] at b4
      simpa [Bs.fours_snoc, Lib.byteCells, Bs.four] using b4
  case done =>
    rintro D ys W hD rfl ⟨h1, h2, h3⟩ hK
    gi_wp2
    refine ⟨trivial, ?_⟩
    refine (callsIn_wide.2 (bstring_calls _ _ _ _ h1)).mono ?_
    rintro e W2 ⟨rfl, u⟩
    have hK2 := u.others.same D _ hK rfl
    have hz2 : w.heap.size + 2 ≤ W2.heap.size := Nat.le_trans h3 u.size
    have hb2 := h2.trans (u.below (B' := w.heap.size) (by omega) (Nat.le_refl _))
    gi_wp2
    refine ⟨by simp, .inl ⟨_, _, rfl, run_takeDeferred hK2, ?_⟩⟩
    refine ⟨_, results_tmp rfl _ _ _, ?_, hb2.trans (belowK_b (w := w) (Nat.le_refl _) W2 D _ _ (by omega) hK2 rfl rfl)⟩
    rw [← Bs.sixes_chunks]; rfl
end Go.Proofs.YtgamebffdcpjaaaGreatDoor
