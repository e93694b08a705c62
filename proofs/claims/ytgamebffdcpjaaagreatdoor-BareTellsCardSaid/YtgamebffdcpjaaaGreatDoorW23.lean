/- Walks: which items may be, as package bare tells it: a map of function values. -/
import Derived.Test.YtgamebffdcpjaaaGreatDoorW22
import Derived.Maps.Own
import Derived.MapKept
namespace Go.Proofs.YtgamebffdcpjaaaGreatDoor
open Go.RowKit
set_option maxRecDepth 100000

set_option maxHeartbeats 4000000 in
theorem fits2_calls (f : FuncId) (w : World) :
    Calls Tryz.prog 146 #[.func (.func f) #[] #[]] w fun e w' => e = .returned (.func (.func 147) #[] #[.pointer (some ⟨w.heap.size, 0, none⟩)]) ∧ w' = w.alloc (.cells #[.func (.func f) #[] #[]] 33) := by
  go_enter Tryz.func146, Tryz.ntmps146
  go_wp2_with fail
  go_ret
  exact ⟨rfl, rfl⟩

def textF (g : Nat) : Value := .func (.func 147) #[] #[.pointer (some ⟨g, 0, none⟩)]
def fitsEs (g : Nat) : Array MapEntry := #[⟨.int .u8 1, .func (.func 145) #[] #[], 0⟩, ⟨.int .u8 2, .func (.func 145) #[] #[], 1⟩, ⟨.int .u8 3, textF g, 2⟩, ⟨.int .u8 4, textF (g + 1), 3⟩,
  ⟨.int .u8 5, textF (g + 2), 4⟩, ⟨.int .u8 6, .func (.func 150) #[] #[], 5⟩]

theorem keyU8 : Tryz.prog.underlying 5 = some (.int .u8) := Tryz.underlying5


theorem lt_of_block {w : World} {g : Nat} {o : Obj} (h : w.heap[g]? = some o) : g < w.heap.size := by
  rcases Nat.lt_or_ge g w.heap.size with hlt | hge
  · exact hlt
  · rw [Array.getElem?_eq_none hge] at h; cases h
theorem alloc_size (w : World) (o : Obj) : (w.alloc o).heap.size = w.heap.size + 1 := by unfold World.alloc; rw [Array.size_push]

/-- A store into a map literal leaves the heap's size. -/
theorem wpList_insert' {P : Program} (w : World) {ops : Array Oper} {rest : List Oper} {o : Oper} {a : Act} {Q : Exit → Act → World → Prop}
    (hg : o.guard = none) (m x v : Operand) (t : TypeId) (hop : o.op = Op.insert t m x v)
    (k e : TypeId) (d : TypeDesc) (ht : P.underlying t = some (.map k e)) (hd : P.underlying k = some d) (b : Nat) (es : Array MapEntry) (c : Nat)
    (hb : w.heap[b]? = some (.map es c)) (hm : a.eval m = .map (some b)) (key val : Value) (hx : a.eval x = key) (hv : a.eval v = val) (hkey : MapKept.IsKey d key)
    (hno : Instr.findNow d key es.toList 0 = some none)
    (hK : ∀ w', w'.heap[b]? = some (.map (es.push { key, val, born := c }) (c + 1)) ∧ w'.heap.size = w.heap.size → w.grownBy w' (some b) → wpList P ops Q rest (a.put o.dst undef) w') :
    wpList P ops Q (o :: rest) a w := by
  refine wpList_plain hg fun K' hK' => ?_
  have hrun : (Instr.mapUpdate t (.map (some b)) key val).run P w = .ok () { w with heap := w.heap.setIfInBounds b (.map (es.push { key, val, born := c }) (c + 1)) } := by
    simp [Instr.mapUpdate, run_underlying ht, MapKept.run_getObj_map hb, MapKept.run_checkKey hd hkey, MapKept.run_findKey hd hno, MapKept.run_setObj_map _ hb, Result.andThen]
  unfold Oper.wp
  simp [execOp, hop, hm, hx, hv, hrun, Result.andThen]
  refine hK' _ _ (hK _ ⟨(MapKept.heap_set hb).1, by simp⟩ ⟨rfl, rfl, rfl, by simp, fun j _ hne => (MapKept.heap_set hb).2 j (fun e => hne (by rw [e]))⟩)

set_option maxHeartbeats 4000000 in
theorem fits_calls (w : World) :
    Calls Tryz.prog 83 #[] w fun e w' => e = .returned (.map (some w.heap.size)) ∧ w'.heap[w.heap.size]? = some (.map (fitsEs (w.heap.size + 1)) 6) ∧
      Whole w' (w.heap.size + 1) 33 #[.func (.func 148) #[] #[]] ∧ Whole w' (w.heap.size + 2) 33 #[.func (.func 22) #[] #[]] ∧ Whole w' (w.heap.size + 3) 33 #[.func (.func 149) #[] #[]] ∧ Below w.heap.size w w' := by
  have hmm := @run_makeMap Tryz.prog
  go_enter Tryz.func83, Tryz.ntmps83
  have s0 := alloc_size w (.map #[] 0)
  have b0 : Below w.heap.size w (w.alloc (.map #[] 0)) := (Below.refl _ _).alloc (Nat.le_refl _) _
  go_wp2_with (first
    | (refine wpList_insert' _ rfl _ _ _ 101 rfl 5 32 (.int .u8) Tryz.underlying101 Tryz.underlying5 w.heap.size #[] 0 (heap_alloc_new w _) rfl (.int .u8 1) (.func (.func 145) #[] #[]) rfl rfl (by trivial) rfl ?_; intro w1 hm1 hg1)
    | (refine wpList_insert' _ rfl _ _ _ 101 rfl 5 32 (.int .u8) Tryz.underlying101 Tryz.underlying5 w.heap.size #[⟨.int .u8 1, .func (.func 145) #[] #[], 0⟩] 1 hm1.1 rfl (.int .u8 2) (.func (.func 145) #[] #[]) rfl rfl (by trivial) rfl ?_; intro w2 hm2 hg2))
  have s2 : w2.heap.size = w.heap.size + 1 := by rw [hm2.2, hm1.2, s0]
  have b2 : Below w.heap.size w w2 := (b0.grown hg1 (by omega) (by rintro k ⟨⟩; omega)).grown hg2 (by rw [hm1.2]; omega) (by rintro k ⟨⟩; omega)
  refine (fits2_calls 148 _).mono ?_
  rintro e v2 ⟨rfl, rfl⟩
  rw [s2]
  have n2 := (Below.heap_alloc w2 (.cells #[.func (.func 148) #[] #[]] 33) w.heap.size (by omega)).trans hm2.1
  have s2' := alloc_size w2 (.cells #[.func (.func 148) #[] #[]] 33)
  have c2 := Whole.new w2 33 #[.func (.func 148) #[] #[]]
  rw [s2] at c2 s2'
  have b2' := b2.alloc (by omega) (.cells #[.func (.func 148) #[] #[]] 33)
  go_wp2_with (refine wpList_insert' _ rfl _ _ _ 101 rfl 5 32 (.int .u8) Tryz.underlying101 Tryz.underlying5 w.heap.size #[⟨.int .u8 1, .func (.func 145) #[] #[], 0⟩, ⟨.int .u8 2, .func (.func 145) #[] #[], 1⟩] 2 n2 rfl (.int .u8 3) (textF (w.heap.size + 1)) rfl rfl (by trivial) rfl ?_; intro w3 hm3 hg3)
  have s3 : w3.heap.size = w.heap.size + 2 := by rw [hm3.2, s2']
  have c3 := c2.grown hg3 (by simp)
  have b3 : Below w.heap.size w w3 := b2'.grown hg3 (by omega) (by rintro k ⟨⟩; omega)
  refine (fits2_calls 22 _).mono ?_
  rintro e v3 ⟨rfl, rfl⟩
  rw [s3]
  have n3 := (Below.heap_alloc w3 (.cells #[.func (.func 22) #[] #[]] 33) w.heap.size (by omega)).trans hm3.1
  have s3' := alloc_size w3 (.cells #[.func (.func 22) #[] #[]] 33)
  have d3 := Whole.new w3 33 #[.func (.func 22) #[] #[]]
  rw [s3] at d3 s3'
  have c3' := c3.alloc (.cells #[.func (.func 22) #[] #[]] 33)
  have b3' := b3.alloc (by omega) (.cells #[.func (.func 22) #[] #[]] 33)
  go_wp2_with (refine wpList_insert' _ rfl _ _ _ 101 rfl 5 32 (.int .u8) Tryz.underlying101 Tryz.underlying5 w.heap.size #[⟨.int .u8 1, .func (.func 145) #[] #[], 0⟩, ⟨.int .u8 2, .func (.func 145) #[] #[], 1⟩, ⟨.int .u8 3, textF (w.heap.size + 1), 2⟩] 3 n3 rfl (.int .u8 4) (textF (w.heap.size + 2)) rfl rfl (by trivial) rfl ?_; intro w4 hm4 hg4)
  have s4 : w4.heap.size = w.heap.size + 3 := by rw [hm4.2, s3']
  have c4 := c3'.grown hg4 (by simp)
  have d4 := d3.grown hg4 (by simp)
  have b4 : Below w.heap.size w w4 := b3'.grown hg4 (by omega) (by rintro k ⟨⟩; omega)
  refine (fits2_calls 149 _).mono ?_
  rintro e v4 ⟨rfl, rfl⟩
  rw [s4]
  have n4 := (Below.heap_alloc w4 (.cells #[.func (.func 149) #[] #[]] 33) w.heap.size (by omega)).trans hm4.1
  have s4' := alloc_size w4 (.cells #[.func (.func 149) #[] #[]] 33)
  have f4 := Whole.new w4 33 #[.func (.func 149) #[] #[]]
  rw [s4] at f4 s4'
  have c4' := c4.alloc (.cells #[.func (.func 149) #[] #[]] 33)
  have d4' := d4.alloc (.cells #[.func (.func 149) #[] #[]] 33)
  have b4' := b4.alloc (by omega) (.cells #[.func (.func 149) #[] #[]] 33)
  go_wp2_with (first
    | (refine wpList_insert' _ rfl _ _ _ 101 rfl 5 32 (.int .u8) Tryz.underlying101 Tryz.underlying5 w.heap.size #[⟨.int .u8 1, .func (.func 145) #[] #[], 0⟩, ⟨.int .u8 2, .func (.func 145) #[] #[], 1⟩, ⟨.int .u8 3, textF (w.heap.size + 1), 2⟩, ⟨.int .u8 4, textF (w.heap.size + 2), 3⟩] 4 n4 rfl (.int .u8 5) (textF (w.heap.size + 3)) rfl rfl (by trivial) rfl ?_; intro w5 hm5 hg5)
    | (refine wpList_insert' _ rfl _ _ _ 101 rfl 5 32 (.int .u8) Tryz.underlying101 Tryz.underlying5 w.heap.size #[⟨.int .u8 1, .func (.func 145) #[] #[], 0⟩, ⟨.int .u8 2, .func (.func 145) #[] #[], 1⟩, ⟨.int .u8 3, textF (w.heap.size + 1), 2⟩, ⟨.int .u8 4, textF (w.heap.size + 2), 3⟩, ⟨.int .u8 5, textF (w.heap.size + 3), 4⟩] 5 hm5.1 rfl (.int .u8 6) (.func (.func 150) #[] #[]) rfl rfl (by trivial) rfl ?_; intro w6 hm6 hg6))
  go_ret
  have b6 : Below w.heap.size w w6 := (b4'.grown hg5 (by omega) (by rintro k ⟨⟩; omega)).grown hg6 (by rw [hm5.2]; omega) (by rintro k ⟨⟩; omega)
  exact ⟨rfl, hm6.1, ((c4'.grown hg5 (by simp)).grown hg6 (by simp)), ((d4'.grown hg5 (by simp)).grown hg6 (by simp)), ((f4.grown hg5 (by simp)).grown hg6 (by simp)), b6⟩
end Go.Proofs.YtgamebffdcpjaaaGreatDoor
