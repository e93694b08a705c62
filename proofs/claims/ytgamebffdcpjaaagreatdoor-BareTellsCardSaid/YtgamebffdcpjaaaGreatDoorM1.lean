/- Memory: a block that is known whole; bytes that the call itself has gathered. -/
import Derived.Test.YtgamebffdcpjaaaGreatDoorW4
import Derived.Maps.AppendAt
import Derived.Laws.OwnMore
import Derived.Laws.BytesArg
import Derived.OwnWalk
import Derived.ScopeJumps
import Derived.WalkMore
namespace Go.Proofs.YtgamebffdcpjaaaGreatDoor
open Go.RowKit

/-- A scope in which the run jumps back to one label: the code from the label on is walked once. -/
theorem scope_jumps {P : Program} {a : Act} {w : World} {Q : Exit → Act → World → Prop} {c rest : Code} (l : Nat) (J : Act → World → Prop) (μ : Act → World → Nat) (hf : findLabel c l = some (Code.skip.seq rest))
    (first : (∀ a w, J a w → rest.wp P (Exit.jump l J Q) a w) → c.wp P (Exit.jump l J Q) a w)
    (pass : ∀ a w, J a w → rest.wp P (Exit.jump l (fun a' w' => J a' w' ∧ μ a' w' < μ a w) Q) a w) : (Code.scope c).wp P Q a w :=
  wp_scope_jumps l J μ hf (first fun a w h => wp_mono (pass a w h) fun e a' w' hq => by
    cases e <;> first | exact hq | exact ⟨hq.1, hq.2.1⟩) fun a w h => wp_seq (wp_skip (pass a w h))

/-- Block g is just these cells of element type t, none frozen. -/
def Whole (w : World) (g : Nat) (t : TypeId) (cs : Array Value) : Prop := w.heap[g]? = some (.cells cs t (0, 0))
section
variable {w w' : World} {g : Nat} {t : TypeId} {cs : Array Value}
theorem Whole.lt (h : Whole w g t cs) : g < w.heap.size := by
  rcases Nat.lt_or_ge g w.heap.size with hlt | hge
  · exact hlt
  · unfold Whole at h; rw [Array.getElem?_eq_none hge] at h; cases h
theorem Whole.cell (h : Whole w g t cs) (i : Nat) : w.cell? ⟨g, i, none⟩ = cs[i]? := by
  unfold Whole at h; simp [World.cell?, h]
theorem Whole.frozen (h : Whole w g t cs) (i : Nat) : w.frozen? ⟨g, i, none⟩ = false := by
  unfold Whole at h; simp [World.frozen?, h]
theorem Whole.new (w : World) (t : TypeId) (cs : Array Value) : Whole (w.alloc (.cells cs t)) w.heap.size t cs := heap_alloc_new w _
theorem Whole.drew (h : Whole w g t cs) : Whole w.drew g t cs := h
theorem Whole.alloc (h : Whole w g t cs) (o : Obj) : Whole (w.alloc o) g t cs := (Below.heap_alloc w o g h.lt).trans h
theorem Whole.set (h : Whole w g t cs) (i : Nat) (u : Value) : Whole (w.setCell ⟨g, i, none⟩ u) g t (cs.setIfInBounds i u) := by
  unfold Whole at h ⊢
  simp [World.setCell, Array.getElem?_modify, h]
theorem Whole.far (h : Whole w g t cs) {p : Addr} (hp : g ≠ p.block) (u : Value) : Whole (w.setCell p u) g t cs := (Below.heap_setCell w p u g hp).trans h
theorem Whole.below {B : Nat} (h : Whole w g t cs) (hb : Below B w w') (hg : g < B) : Whole w' g t cs := (hb.block g hg).trans h
theorem Whole.grown {row : Option Nat} (h : Whole w g t cs) (hb : w.grownBy w' row) (hg : some g ≠ row) : Whole w' g t cs := (hb.block g h.lt hg).trans h
end

def by8 (c : UInt8) : Value := .int .u8 (c.toNat : Int)
/-- A slice of bytes that the call itself has made (from block B on): it holds these bytes. -/
def OwnB (w : World) (B : Nat) (v : Value) (l : Bs.Bytes) : Prop := w.ownsRow B 5 1 v l.length (l.map by8)

theorem OwnB.nil (w : World) (B : Nat) : OwnB w B (.slice none 0 0) [] := World.ownsRow_nil w B 5 1
theorem OwnB.alloc {w : World} {B : Nat} {v : Value} {l : Bs.Bytes} (h : OwnB w B v l) (o : Obj) : OwnB (w.alloc o) B v l := World.ownsRow.alloc h o
theorem OwnB.drew {w : World} {B : Nat} {v : Value} {l : Bs.Bytes} (h : OwnB w B v l) : OwnB w.drew B v l := h
theorem info5 : (Tryz.prog.info? 5).map (fun i => (i.zero, i.size, i.bytes)) = some (some (.int .u8 0), 1, 1) := by kernel_rfl

theorem map_back (l : Bs.Bytes) : l.map ((fun n : Int => UInt8.ofNat n.toNat) ∘ fun c => (c.toNat : Int)) = l := by
  induction l with
  | nil => rfl
  | cons c t ih => rw [List.map_cons, ih]; simp

/-- The text of such bytes. -/
theorem OwnB.text {w : World} {B : Nat} {v : Value} {l : Bs.Bytes} (h : OwnB w B v l) (k : Nat) : (convert 94 9 v).run Tryz.prog (w.drewN k) = .ok (.string ⟨l.toArray⟩) (w.drewN k) := by
  obtain ⟨hl, h⟩ := h
  rcases h with ⟨rfl, h0⟩ | ⟨g, cap, cur, rfl, hB, hh, hn, hc, hs, ht⟩
  · rw [run_convert_bytes_nil (P := Tryz.prog) _ 94 5 Tryz.underlying94 Tryz.underlying5 0 0 9 Tryz.underlying9]
    have : l = [] := List.eq_nil_of_length_eq_zero h0
    subst this; rfl
  · rw [run_convert_bytes_arg (P := Tryz.prog) (off := 0) _ 94 5 Tryz.underlying94 Tryz.underlying5 g l.length cap (l.map fun c => (c.toNat : Int)) (by simp) ?_ 9 Tryz.underlying9]
    · congr 2
      unfold strOfNums
      congr 1
      simp [map_back]
    · intro i hi
      have hc : w.cell? ⟨g, 0 + i, none⟩ = (l.map by8)[i]? := by
        rw [← ht]
        unfold World.cell?
        rw [hh]
        simp [List.getElem?_take, hi]
      have : (w.drewN k).cell? ⟨g, 0 + i, none⟩ = w.cell? ⟨g, 0 + i, none⟩ := rfl
      rw [this, hc]
      simp [by8, List.getElem?_eq_getElem hi]
end Go.Proofs.YtgamebffdcpjaaaGreatDoor
