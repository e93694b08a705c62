/- Memory: a range over an iterator that keeps its state in a block of cells of its own (the kit's laws leave that out). The body of such a loop goes on, always. -/
import Derived.Test.YtgamebffdcpjaaaGreatDoorW25
import Derived.RangeFuncNested
import Derived.RangeFuncBound
import Derived.RangeFuncCalls
import Derived.RangeFuncLeaves
import Derived.Shelf.Abstract
import Derived.Shelf.RegionOpen
import Derived.OwnWalkIn
import Derived.TacticsInMore
import Derived.LoopNIn
import Derived.LoopIn
namespace Go.Proofs.YtgamebffdcpjaaaGreatDoor
open Go.RowKit

variable {F : Fence} {n : Nat} {P : Program}

/-- An iterator (whose rounds all go on) that may write block Rb between them: what holds between two rounds abides that. -/
def SeqAt {α : Type} (F : Fence) (n : Nat) (P : Program) (g : Nat) (lb : Array Value) (encs : α → Array Value) (Kp : World → World → Prop) (S : List α → Prop) (N : Nat) (Rb : Nat) (w : World) : Prop :=
  ∀ (l : Nat) (J : List α → World → Prop) (W : World), Below w.heap.size w W → (∀ pre A B, J pre A → A.grownBy B (some Rb) → J pre B) →
    (∀ pre x W1, J pre W1 → pre.length < N → YieldAt F (n - 1) P l (encs x) W1 fun e W' => e = .returned (.bool true) ∧ J (pre ++ [x]) W' ∧ Kp W1 W') →
    J [] W → CallsIn F n P g (#[.func (.yield l) #[] #[]] ++ lb) W fun e W' => (∃ v, e = .returned v) ∧ ∃ xs, S xs ∧ J xs W'

/-- How the body of a round is left: by its end. -/
def GoesOn (B : Nat) (Kp : World → World → Prop) (I : World → Prop) (W : World) : Exit → Act → World → Prop
  | .normal, _, W' => KeepsFrom B W W' ∧ Kp W W' ∧ I W'
  | _, _, _ => False

/-- The loop's record, as it stands between two rounds or in one. -/
def recOf (a : Act) (ps : Array Tmp) (assign body : Code) (fn : FuncId) (D : Nat) (st : LoopState) : Loop := { state := st, pending := none, fn, tmps := a.tmps, params := ps, assign, body, defers := D }

/-- One round: the assignment, the body, the record before and behind. -/
theorem round_at {α : Type} {ps : Array Tmp} {assign body : Code} {a : Act} {B l D : Nat} {fn : FuncId}
    {Kp : World → World → Prop} (hKt : ∀ {A B C : World}, Kp A B → Kp B C → Kp A C) (hKb : ∀ (W : World) (l : Nat) (o o' : Obj), B ≤ l → W.heap[l]? = some o → o.isCells = false → o.isWalk = false → Kp W (W.putObj l o'))
    (I : List α → World → Prop) (hI : OwnFrom B I) (hl : B ≤ l) (hD : B ≤ D) (hDl : D ≠ l) (pre : List α) (x : α) (W Wa : World)
    (hk0 : KeepsFrom B W Wa) (hk1 : Kp W Wa) (hrec : W.heap[l]? = some (.loop (recOf a ps assign body fn D .ready))) (hdef : W.heap[D]? = some (.deferred (some [])))
    (hi : I pre Wa) :
    ∃ W2, (Instr.beginRound l).run P Wa = .ok () W2 ∧ I pre W2 ∧ W2.heap[l]? = some (.loop (recOf a ps assign body fn D .busy)) ∧ W2 = Wa.putObj l (.loop (recOf a ps assign body fn D .busy)) ∧
      ∀ a3 W3, GoesOn B Kp (I (pre ++ [x])) W2 .normal a3 W3 → ∃ W4, (Instr.endRound l none).run P W3 = .ok (.bool true) W4 ∧ I (pre ++ [x]) W4 ∧
        W4.heap[l]? = some (.loop (recOf a ps assign body fn D .ready)) ∧ W4.heap[D]? = some (.deferred (some [])) ∧ Kp W W4 := by
  have r1 := hk0.same l _ hl hrec rfl
  have d1 := hk0.same D _ hD hdef rfl
  have lt1 : l < Wa.heap.size := (Array.getElem?_eq_some_iff.1 r1).1
  have r2 : (Wa.putObj l (.loop (recOf a ps assign body fn D .busy))).heap[l]? = some (.loop (recOf a ps assign body fn D .busy)) := World.putObj_heap_same lt1
  have d2 : (Wa.putObj l (.loop (recOf a ps assign body fn D .busy))).heap[D]? = some (.deferred (some [])) := (World.putObj_heap_other hDl).trans d1
  have k2 : Kp Wa (Wa.putObj l (.loop (recOf a ps assign body fn D .busy))) := hKb _ _ _ _ hl r1 rfl rfl
  refine ⟨_, run_beginRound r1 rfl, hI.putObj _ hi hl r1 rfl, r2, rfl, ?_⟩
  rintro a3 W3 ⟨kf, kp, hi3⟩
  have r3 := kf.same l _ hl r2 rfl
  have d3 := kf.same D _ hD d2 rfl
  have lt3 : l < W3.heap.size := (Array.getElem?_eq_some_iff.1 r3).1
  exact ⟨_, run_endRound (P := P) none r3, hI.putObj _ hi3 hl r3 rfl, World.putObj_heap_same lt3, (World.putObj_heap_other hDl).trans d3, hKt hk1 (hKt (hKt k2 kp) (hKb _ _ _ _ hl r3 rfl rfl))⟩

/-- A range over such an iterator. -/
theorem wpIn_rangeFunc_at {α : Type} {g : Operand} {ps : Array Tmp} {assign body : Code} {Q : Exit → Act → World → Prop} {a : Act} {w : World}
    (hro : F.round = none) (h1 : 1 ≤ n) {gf : Nat} {lb : Array Value} (hg : a.eval g = .func (.func gf) #[] lb) (hFg : F.fn gf) (eg : ∀ args w, (callFunc gf args).run P w = .ok (.enter gf args) w)
    {encs : α → Array Value} {Kp : World → World → Prop} {S : List α → Prop} {N Rb : Nat} {w0 : World} (hRb : Rb < w.heap.size) (hseq : SeqAt F (n - 1) P gf lb encs Kp S N Rb w0)
    (hKt : ∀ {A B C : World}, Kp A B → Kp B C → Kp A C) (hKb : ∀ (W : World) (l : Nat) (o o' : Obj), w.heap.size ≤ l → W.heap[l]? = some o → o.isCells = false → o.isWalk = false → Kp W (W.putObj l o'))
    (hb0 : Below w0.heap.size w0 w) (hps : ∀ x, (encs x).size = ps.size)
    (I : List α → World → Prop) (hI : OwnFrom w.heap.size I) (hIR : ∀ pre A B, I pre A → A.grownBy B (some Rb) → I pre B) (h0 : I [] w)
    (Ax : α → Act → World → Prop) (hAx : ∀ x a', OwnFrom w.heap.size (fun (_ : Unit) W => Ax x a' W))
    (hassign : ∀ (l : Nat) (pre : List α) (x : α) (W : World) (K : Act → World → Prop), I pre W → (∀ a' W', KeepsFrom w.heap.size W W' → Kp W W' → I pre W' → Ax x a' W' → K a' W') →
      assign.wpIn (F.inRound l) (n - 1 - 1) P (Exit.then K (fun _ _ _ => False)) { tmps := (ps.zip (encs x)).foldl (fun t (p, v) => t.setIfInBounds p v) a.tmps, defers := [] } W)
    (hbody : ∀ (l : Nat) (pre : List α) (x : α) (a' : Act) (W : World), w.heap.size ≤ l → (∃ r, W.heap[l]? = some (.loop r)) → I pre W → Ax x a' W → pre.length < N →
      body.wpIn (F.inRound l) (n - 1 - 1) P (GoesOn w.heap.size Kp (I (pre ++ [x])) W) a' W)
    (hdone : ∀ (D : Nat) (xs : List α) (W : World), w.heap.size ≤ D → S xs → I xs W → W.heap[D]? = some (.deferred (some [])) → Q .normal { a with defers := { target := .collected D, args := #[] } :: a.defers } W) :
    (Code.rangeFunc g ps assign body).wpIn F n P Q a w := by
  refine wpIn_rangeFunc fun fn hfn => ?_
  rw [hro]
  have s1 : (w.alloc (.deferred (some []))).heap.size = w.heap.size + 1 := World.size_alloc _ _
  obtain ⟨W1, hW1⟩ : ∃ W1, W1 = (w.alloc (.deferred (some []))).alloc (.loop (recOf a ps assign body fn w.heap.size .ready)) := ⟨_, rfl⟩
  have r1 : W1.heap[w.heap.size + 1]? = some (.loop (recOf a ps assign body fn w.heap.size .ready)) := by
    rw [hW1, ← s1]; exact World.alloc_heap_new _ _
  have d1 : W1.heap[w.heap.size]? = some (.deferred (some [])) := by
    rw [hW1]; exact (Below.heap_alloc _ _ _ (by rw [s1]; omega)).trans (World.alloc_heap_new w _)
  refine ⟨w.heap.size + 1, [{ target := .collected w.heap.size, args := #[] }], W1, { target := .fn (.func gf) lb, args := #[.func (.yield (w.heap.size + 1)) #[] #[]] }, W1, gf,
    #[.func (.yield (w.heap.size + 1)) #[] #[]] ++ lb, W1, by rw [hW1]; exact run_enterLoop_outer _ _ _ _ _, ?_, ?_, ?_, fun _ => h1, ?_⟩
  · simp only [resolve, hg]
    simp [go_sem]
  · intro f' hf'
    simp [Target.leads] at hf'
    subst hf'
    exact hFg
  · simp [invoke, go_sem, eg]
  · have hbw : Below w.heap.size w W1 := by rw [hW1]; exact ((Below.refl _ w).alloc (Nat.le_refl _) _).alloc (by rw [s1]; omega) _
    refine (hseq (w.heap.size + 1)
      (fun pre W => I pre W ∧ W.heap[w.heap.size + 1]? = some (.loop (recOf a ps assign body fn w.heap.size .ready)) ∧ W.heap[w.heap.size]? = some (.deferred (some [])))
      W1 (hb0.trans (hbw.mono hb0.size)) ?_ ?_ ⟨by rw [hW1]; exact hI.alloc _ (hI.alloc _ h0), r1, d1⟩).mono ?_
    · rintro s A B ⟨i, r, d⟩ hgr
      have back : ∀ k, k < A.heap.size → k ≠ Rb → B.heap[k]? = A.heap[k]? := fun k hk hne => hgr.block k hk (fun e => hne (by cases e; rfl))
      exact ⟨hIR s A B i hgr, (back _ (Array.getElem?_eq_some_iff.1 r).1 (by omega)).trans r, (back _ (Array.getElem?_eq_some_iff.1 d).1 (by omega)).trans d⟩
    · rintro pre x W ⟨i, r, d⟩ hlen
      refine ⟨fn, _, assign, body, run_yield (P := P) (args := encs x) r (hps x), roundIn_of_wpIn hfn (hassign _ pre x W _ i ?_)⟩
      intro a' Wa kf kp ia ax
      have lt : w.heap.size + 1 < Wa.heap.size := (Array.getElem?_eq_some_iff.1 (kf.same _ _ (by omega) r rfl)).1
      obtain ⟨W2, hbeg, i2, r2, hW2, hend⟩ := round_at (P := P) (Kp := Kp) (fun h k => hKt h k) hKb I hI (show w.heap.size ≤ w.heap.size + 1 by omega) (Nat.le_refl _) (by omega) pre x W Wa kf kp r d ia
      refine ⟨W2, hbeg, ?_⟩
      have ax2 : Ax x a' W2 := by rw [hW2]; exact (hAx x a').putObj (s := ()) _ ax (by omega) (kf.same _ _ (by omega) r rfl) rfl
      refine wpIn_mono (hbody _ pre x a' W2 (by omega) ⟨_, r2⟩ i2 ax2 hlen) ?_
      rintro e a3 W3 hp
      cases e with
      | normal =>
        obtain ⟨W4, hr, i4, r4, d4, k4⟩ := hend a3 W3 hp
        exact ⟨_, W4, hr, rfl, ⟨i4, r4, d4⟩, k4⟩
      | ret => exact hp.elim
      | exit id => exact hp.elim
      | goto t => exact hp.elim
      | panic ch => exact hp.elim
      | outgrown => exact hp.elim
    · rintro e W2 ⟨⟨v, rfl⟩, xs, hS, i, r, d⟩
      exact ⟨none, _, run_endLoop (P := P) r (by simp [recOf]), hdone _ xs _ (Nat.le_refl _) hS (hI.putObj _ i (by omega) r rfl) ((World.putObj_heap_other (by omega)).trans d)⟩
end Go.Proofs.YtgamebffdcpjaaaGreatDoor
