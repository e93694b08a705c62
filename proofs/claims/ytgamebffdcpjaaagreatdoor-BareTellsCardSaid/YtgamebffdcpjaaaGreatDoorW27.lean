/- Walks: a builder's bytes, and what else lies as it lay. -/
import Derived.Test.YtgamebffdcpjaaaGreatDoorW26
namespace Go.Proofs.YtgamebffdcpjaaaGreatDoor
open Go.RowKit
set_option maxRecDepth 100000

/-- A builder at block b, its bytes in a row of its own from block B on. -/
def Bld (W : World) (b B : Nat) (bs : List Value) : Prop :=
  ∃ p v, (p = .pointer none ∨ p = .pointer (some ⟨b, 0, none⟩)) ∧ W.heap[b]? = some (.cells #[p, v] 105 (0, 0)) ∧ W.ownsRow B 5 1 v bs.length bs ∧ b < B ∧ (bs = [] → v = .slice none 0 0)

/-- Below B all lies as it lay, but block b. -/
structure But (B b : Nat) (w w' : World) : Prop where
  os : w'.os = w.os
  tape : w'.tape = w.tape
  output : w'.output = w.output
  size : w.heap.size ≤ w'.heap.size
  block : ∀ k, k < B → k ≠ b → w'.heap[k]? = w.heap[k]?
  others : KeepsOthers w w'

theorem But.refl (B b : Nat) (w : World) : But B b w w := ⟨rfl, rfl, rfl, Nat.le_refl _, fun _ _ _ => rfl, KeepsOthers.refl _⟩
theorem But.trans {B b : Nat} {x y z : World} (h : But B b x y) (k : But B b y z) : But B b x z :=
  ⟨k.os.trans h.os, k.tape.trans h.tape, k.output.trans h.output, Nat.le_trans h.size k.size, fun i hi hb => (k.block i hi hb).trans (h.block i hi hb), h.others.trans k.others⟩
theorem But.below {B B' b : Nat} {w w' : World} (h : But B b w w') (h1 : B' ≤ B) (h2 : B' ≤ b) : Below B' w w' :=
  ⟨h.os, h.tape, h.output, h.size, fun k hk => h.block k (by omega) (by omega)⟩
theorem But.set {B b : Nat} {a w : World} (h : But B b a w) (o : Nat) (u : Value) : But B b a (w.setCell ⟨b, o, none⟩ u) :=
  ⟨h.os, h.tape, h.output, by simpa using h.size, fun k hk hb => (Below.heap_setCell w ⟨b, o, none⟩ u k hb).trans (h.block k hk hb), h.others.trans (KeepsOthers.setCell _ _ _)⟩
theorem But.alloc {B b : Nat} {a w : World} (h : But B b a w) (hB : B ≤ w.heap.size) (o : Obj) : But B b a (w.alloc o) :=
  ⟨h.os, h.tape, h.output, by rw [alloc_size]; have := h.size; omega, fun k hk hb => (Below.heap_alloc w o k (by omega)).trans (h.block k hk hb), h.others.trans (KeepsOthers.alloc _ _)⟩
theorem But.grown {B b : Nat} {a w w' : World} {row : Option Nat} (h : But B b a w) (hg : w.grownBy w' row) (hB : B ≤ w.heap.size) (hr : ∀ k, row = some k → B ≤ k ∧ ∃ o, w.heap[k]? = some o ∧ o.isCells = true) : But B b a w' :=
  ⟨hg.os.trans h.os, hg.tape.trans h.tape, hg.output.trans h.output, Nat.le_trans h.size hg.size, fun k hk hb => (hg.block k (by omega) (fun e => by have := (hr k e.symm).1; omega)).trans (h.block k hk hb), h.others.trans (KeepsOthers.of_grownBy hg (fun k o e ho => by obtain ⟨o', ho', hc⟩ := (hr k e).2; rw [ho] at ho'; cases ho'; exact hc))⟩

theorem grownBy_cell (W : World) (b i : Nat) (v : Value) : W.grownBy (W.setCell ⟨b, i, none⟩ v) (some b) :=
  ⟨rfl, rfl, rfl, by simp, fun k _ hk => Below.heap_setCell _ _ _ k (fun e => hk (by rw [e]))⟩
theorem own_cells {w : World} {B n : Nat} {v : Value} {xs : List Value} (h : w.ownsRow B 5 1 v n xs) (k : Nat) (hk : v.ownBlock = some k) : ∃ o, w.heap[k]? = some o ∧ o.isCells = true := by
  rcases h.2 with ⟨hv, _⟩ | ⟨g, cap, cur, hv, _, hh, _⟩
  · rw [hv] at hk; cases hk
  · rw [hv] at hk; cases hk; exact ⟨_, hh, rfl⟩
theorem shape_of {w : World} {b : Nat} {cs : Array Value} {t : TypeId} {fz : Nat × Nat} (h : w.heap[b]? = some (.cells cs t fz)) : w.shape? b = some (t, cs.size) := by
  unfold World.shape?; rw [h]

/-- copyCheck at such a builder. -/
theorem bcheck_calls (b B : Nat) (bs : List Value) (w : World) (h : Bld w b B bs) :
    Calls Tryz.prog 152 #[.pointer (some ⟨b, 0, none⟩)] w fun e w' => e = .returned (.tuple #[]) ∧
      (∃ v, w'.heap[b]? = some (.cells #[.pointer (some ⟨b, 0, none⟩), v] 105 (0, 0)) ∧ w'.ownsRow B 5 1 v bs.length bs) ∧ But B b w w' := by
  obtain ⟨p, v, hp, hb, hown, hlt, hn⟩ := h
  rcases hp with rfl | rfl
  · refine (check_fresh b w (by rw [Lib.cell_of_heap hb]; rfl) (shape_of hb) (Lib.frozen_of_heap hb 0)).mono ?_
    rintro e w' ⟨rfl, rfl⟩
    refine ⟨rfl, ⟨v, ?_, ?_⟩, (But.refl _ _ _).set _ _⟩
    · have := Whole.set (w := w) (g := b) (t := 105) (cs := #[.pointer none, v]) hb 0 (.pointer (some ⟨b, 0, none⟩))
      exact this
    · refine hown.kept (grownBy_setCell' w b _) (.inr ?_)
      intro e
      have := (World.ownsRow.lt hown b e).1
      omega
  · refine (check_used b w (by rw [Lib.cell_of_heap hb]; rfl)).mono ?_
    rintro e w' ⟨rfl, rfl⟩
    exact ⟨rfl, ⟨v, hb, hown⟩, But.refl _ _ _⟩

set_option maxHeartbeats 4000000 in
theorem bwrite_calls (b B : Nat) (bs : List Value) (c : Int) (w : World) (h : Bld w b B bs) (hlen : bs.length + 1 ≤ 140737488355328) (hBw : B ≤ w.heap.size) :
    Calls Tryz.prog 86 #[.pointer (some ⟨b, 0, none⟩), .int .u8 c] w fun e w' => e = .returned .nilIface ∧ Bld w' b B (bs ++ [.int .u8 c]) ∧ But B b w w' := by
  have hbB : b < B := by obtain ⟨p, v, h⟩ := h; exact h.2.2.2.1
  obtain ⟨i0, hi, hz0, hz1, hz2⟩ := info_parts info5
  go_enter Tryz.func86, Tryz.ntmps86
  go_wp2_with (go_at_call 152; refine (bcheck_calls b B bs _ h).mono ?_)
  rintro e w1 ⟨rfl, ⟨v, hbk, hown⟩, hb1⟩
  have c0 : w1.cell? ⟨b, 0, none⟩ = some (.pointer (some ⟨b, 0, none⟩)) := by rw [Lib.cell_of_heap hbk]; rfl
  have c1 : w1.cell? ⟨b, 1, none⟩ = some v := by rw [Lib.cell_of_heap hbk]; rfl
  go_wp2_with (at_builtin; refine wpList_append_own _ rfl _ _ 94 rfl B 5 i0 (.int .u8 0) 1 1 Tryz.underlying94 hi hz0 hz1 hz2 rfl (by decide) _ _ _ rfl (hown.alloc _) ⟨w1.heap.size, 0, none⟩ 1 1 [.int .u8 c] rfl rfl ?c1 ?c2 ?c3 ?c4 ?c5 ?_)
  case c1 =>
    intro j u hj
    match j, hj with
    | 0, hj => simp at hj; subst hj; simp [Addr.add]
  case c2 => intro u hu; simp at hu; subst hu; rfl
  case c3 => unfold maxLen; omega
  case c4 => omega
  case c5 => have := hb1.size; simp; omega
  intro v' w2 hown' hgrow _
  have hlt : b < w1.heap.size := lt_of_block hbk
  have hne : v.ownBlock ≠ some b := fun e => by have := (World.ownsRow.lt hown b e).1; omega
  have hb2 : w2.heap[b]? = some (.cells #[.pointer (some ⟨b, 0, none⟩), v] 105 (0, 0)) := by
    rw [hgrow.block b (by simp; omega) (fun e => hne e.symm), Lib.alloc_old w1 _ b hlt]
    exact hbk
  have d0 : w2.cell? ⟨b, 0, none⟩ = some (.pointer (some ⟨b, 0, none⟩)) := by rw [Lib.cell_of_heap hb2]; rfl
  have d1 : w2.cell? ⟨b, 1, none⟩ = some v := by rw [Lib.cell_of_heap hb2]; rfl
  have f1 : w2.frozen? ⟨b, 1, none⟩ = false := Lib.frozen_of_heap hb2 1
  obtain ⟨g, cap, rfl⟩ : ∃ g cap, v' = .slice (some ⟨g, 0, none⟩) (bs.length + 1) cap := by
    rcases hown'.2 with ⟨_, h0⟩ | ⟨g, cap, cur, hv, _⟩
    · omega
    · exact ⟨g, cap, hv⟩
  go_wp2_with fail
  go_ret
  refine ⟨rfl, ?_, ?_⟩
  · refine ⟨_, _, .inr rfl, Whole.set (w := w2) (g := b) (t := 105) hb2 1 _, ?_, hbB, fun e => by simp at e⟩
    have := (World.ownsRow.kept hown' (grownBy_cell w2 b 1 (.slice (some ⟨g, 0, none⟩) (bs.length + 1) cap)) (.inr fun e => by have := (World.ownsRow.lt hown' b e).1; omega))
    simpa using this
  · exact ((hb1.alloc (by have := hb1.size; omega) _).grown hgrow (by have := hb1.size; simp; omega) (fun k hk => ⟨(World.ownsRow.lt hown k hk).1, own_cells (hown.alloc _) k hk⟩)).set 1 _

theorem cells5 : Tryz.prog.cellsOf 5 = 1 := by kernel_rfl
theorem freeze_heap (w : World) (g n k : Nat) (h : k ≠ g) : (w.freeze ⟨g, 0, none⟩ n).heap[k]? = w.heap[k]? := by
  unfold World.freeze
  split
  · rfl
  · simp only [Array.getElem?_modify]
    rw [if_neg (by omega)]

set_option maxHeartbeats 4000000 in
theorem bstring_calls (b B : Nat) (l : Bs.Bytes) (w : World) (h : Bld w b B (Lib.byteCells l)) :
    Calls Tryz.prog 87 #[.pointer (some ⟨b, 0, none⟩)] w fun e w' => e = .returned (.string ⟨l.toArray⟩) ∧ But B b w w' := by
  obtain ⟨p, v, hp, hbk, hown, hlt, hn⟩ := h
  rw [Lib.byteCells_length] at hown
  cases hl : l with
  | nil =>
    subst hl
    obtain rfl := hn rfl
    have hUS := fun W q => Lib.run_unsafeString_none (P := Tryz.prog) W 179 3 9 q
    have c1 : w.drew.cell? ⟨b, 1, none⟩ = some (.slice none 0 0) := by
      have : w.drew.heap[b]? = some (.cells #[p, .slice none 0 0] 105 (0, 0)) := hbk
      rw [Lib.cell_of_heap this]; rfl
    have hSD : (Builtin.unsafeSliceData_ #[94] 179 #[.slice none 0 0]).run Tryz.prog w.drew = .ok (.pointer none) w.drew := rfl
    go_enter Tryz.func87, Tryz.ntmps87
    go_wp2_with fail
    go_region
    all_goals (go_wp2_with fail; go_ret; exact ⟨rfl, ⟨rfl, rfl, rfl, Nat.le_refl _, fun _ _ _ => rfl, KeepsOthers.drew _⟩⟩)
  | cons c t =>
    rw [← hl]
    have hl0 : l.length ≠ 0 := by rw [hl]; simp
    have h0 : l ≠ [] := by rw [hl]; simp
    obtain ⟨g, cap, cur, rfl, hbg, hg, hnc, hcm, hcs, htake⟩ : ∃ g cap cur, v = .slice (some ⟨g, 0, none⟩) l.length cap ∧ B ≤ g ∧ w.heap[g]? = some (.cells cur 5 (0, 0)) ∧ l.length ≤ cap ∧ cap ≤ maxLen ∧ cur.size = cap * 1 ∧ cur.toList.take (l.length * 1) = Lib.byteCells l := by
      rcases hown.2 with ⟨_, hz⟩ | ⟨g, cap, cur, hv, r⟩
      · exact absurd hz hl0
      · exact ⟨g, cap, cur, hv, r⟩
    have c1 : w.drew.cell? ⟨b, 1, none⟩ = some (.slice (some ⟨g, 0, none⟩) l.length cap) := by
      have : w.drew.heap[b]? = some (.cells #[p, .slice (some ⟨g, 0, none⟩) l.length cap] 105 (0, 0)) := hbk
      rw [Lib.cell_of_heap this]; rfl
    have hSD : (Builtin.unsafeSliceData_ #[94] 179 #[.slice (some ⟨g, 0, none⟩) l.length cap]).run Tryz.prog w.drew = .ok (.pointer (some ⟨g, 0, none⟩)) w.drew :=
      Lib.run_unsafeSliceData_row _ _ _ _ _ _ (by omega)
    have hUS : (Builtin.unsafeString_ #[179, 3] 9 #[.pointer (some ⟨g, 0, none⟩), .int .i64 l.length]).run Tryz.prog w.drew = .ok (.string ⟨l.toArray⟩) (w.drew.freeze ⟨g, 0, none⟩ l.length) := by
      refine Lib.run_unsafeString_row w.drew 179 3 9 5 Tryz.underlying179 cells5 g cur.size (by have hg' : w.drew.heap[g]? = some (.cells cur 5 (0, 0)) := hg; simp [World.shape?, hg']) l h0 (by omega) (by unfold maxLen at hcm; omega) ?_
      intro j x hx
      exact World.ownsRow.cells hown (g := g) rfl j (.int .u8 x.toNat) (by simp [Lib.byteCells, hx])
    have hbut : But B b w (w.drew.freeze ⟨g, 0, none⟩ l.length) := by
      have hb := Lib.below_freeze (Below.drew (Below.refl B w)) (p := ⟨g, 0, none⟩) hbg l.length
      refine ⟨hb.os, hb.tape, hb.output, hb.size, fun k hk _ => hb.block k hk, hb.size, fun k o hk ho => ?_⟩
      have : k ≠ g := fun e => by subst e; rw [hg] at hk; cases hk; cases ho
      exact (freeze_heap w.drew g l.length k this).trans hk
    clear hcm hnc hcs htake hg hbk hown hn hl
    go_enter Tryz.func87, Tryz.ntmps87
    go_wp2_with fail
    go_region
    all_goals (go_wp2_with fail; go_ret; exact ⟨rfl, hbut⟩)
end Go.Proofs.YtgamebffdcpjaaaGreatDoor
