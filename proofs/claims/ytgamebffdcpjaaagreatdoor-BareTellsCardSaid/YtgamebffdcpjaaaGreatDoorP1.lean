/- The row of the law on bare items. -/
import Derived.Test.YtgamebffdcpjaaaGreatDoorW31
import Derived.Test.YtgamebffdcpjaaaGreatDoorCards
import Derived.Test.YtgamebffdcpjaaaGreatDoorTie
import Derived.ProofKit
import Derived.OpenShut
import Derived.Deep.DeepHandedRow
import Derived.Deep.DeepWitnessRowRef
import Derived.Lib.LaidTab
import Derived.Lib.LaidIn
import Derived.Lib.SmallJoins
import Derived.Shelf.Vars
import Derived.Stop.LaidErr
namespace Go.Proofs.YtgamebffdcpjaaaGreatDoor
open Go.ChangeShapes Go.WideShapes Go.ChangeAt Go.RowKit Go.Joins
set_option maxRecDepth 100000

theorem knob : ownKnob Tryz.prog.godebug = none := by kernel_rfl

/-- What the walks hold of the library's tables, off the row's list. -/
theorem env_of {W : World} (h : laidMet Tryz.prog Rows.bareTellsRow.laid W) (hs : W.ShapedOpen Tryz.prog) : Env W := by
  refine ⟨?_, ?_⟩
  · refine Lib.tabIs_of_head (rest := Rows.bareTellsRow.laid.drop 3) (g := 1) (t := 234) (n := 20) (by kernel_rfl) (by kernel_rfl) Tryz.underlying234 (by kernel_rfl) (by kernel_rfl) (by kernel_rfl) ?_
    have h1 : laidMet Tryz.prog (Rows.bareTellsRow.laid.drop 1) W := h.tail
    have h2 : laidMet Tryz.prog (Rows.bareTellsRow.laid.drop 2) W := h1.tail
    exact h2
  · exact cell_of_shapedOpen_int (k := .i64) hs (by decide +kernel) (t := 3) (zero := #[.int .i64 0]) (by kernel_rfl) rfl (by kernel_rfl) (by kernel_rfl) Tryz.underlying3

theorem bare_contract (H : Type) (enc : TypeId × Value → H) (W : World) (base : Nat) (args : Array Value) (ds gs : List (DataW H)) (before : List MemPlace)
    (hval : ∀ (j : Nat) t v, Tryz.f3.params[j]? = some t → args[j]? = some v → Value.okWide Tryz.prog W .any base t v)
    (hW : DataW.Whole enc Tryz.prog Tryz.f3.params.toList Rows.bareTellsSpec.vars false W args.toList ds gs before) (hE : Env W) :
    Calls Tryz.prog 3 args W fun e W' => ∃ v, e = .returned v ∧ Rows.bareTellsSpec.post enc Tryz.prog Tryz.f3 false true false false W args v W' := by
  have hW' := hW
  obtain ⟨p, q, hA0, hV, rfl, hfz, hnd⟩ := hW
  have hA : DataW.TrodAll enc Tryz.prog W 0 (fun _ => true) true Tryz.f3.params.toList args.toList ds p := hA0
  rw [Tryz.params3] at hA hval
  obtain ⟨v0, vs0, d0, ds0, p0, q0, hargs, rfl, rfl, h0, r0⟩ := trodAll_cons hA
  obtain ⟨v1, vs1, d1, ds1, p1, q1, rfl, rfl, rfl, h1, r1⟩ := trodAll_cons r0
  obtain ⟨rfl, rfl, rfl⟩ := trodAll_nil r1
  obtain rfl : args = #[v0, v1] := by cases args; simp_all
  obtain ⟨rfl, rfl⟩ := trodVars_none hV
  obtain ⟨c0, c1, c2, c3, y0, y1, y2, y3, m, rfl, rfl, rfl, hy0, hy1, hy2, hy3⟩ := open_agg4 Tryz.underlying23 (by kernel_rfl) (by kernel_rfl) (hval 0 23 v0 rfl rfl) h0
  obtain ⟨x, e0, rfl, wx⟩ := DataW.trod_int Tryz.underlying5 hy0
  obtain ⟨i, e1, rfl, wi⟩ := DataW.trod_int Tryz.underlying3 hy1
  obtain ⟨s, e2, rfl, ws⟩ := DataW.trod_string Tryz.underlying9 hy2
  obtain ⟨y, e3, rfl⟩ := DataW.trod_bool Tryz.underlying4 hy3
  simp at e0 e1 e2 e3
  subst e0 e1 e2 e3
  obtain ⟨u, rfl, rfl, rfl, wu⟩ := Go.ChangeMaps.open_string Tryz.underlying9 (hval 1 9 v1 rfl rfl) h1
  clear hA0
  simp only [List.append_nil] at hW'
  obtain ⟨k, rfl⟩ : ∃ k : Nat, x = (k : Int) := by
    have : 0 ≤ x := by simp [Lit.wf] at wx; exact wx.1
    exact ⟨x.toNat, by omega⟩
  refine (bareTells_calls k i s y u W hE).mono ?_
  rintro e W' ⟨rfl, hB⟩
  refine ⟨_, rfl, _, _, _, [], [], [], hW', ?_, ?_, rfl, hB.frame _, fun h => by cases h⟩
  · exact trodAll_cons_mk (shut_bool Tryz.underlying4 true) trodAll_mk0
  · exact trodAll_cons_mk (Go.WideElems.Trod_stays (by kernel_rfl) (by kernel_rfl) (by decide +kernel) h0 (by simp) (by simp)) (trodAll_cons_mk (Go.ChangeMaps.shut_string Tryz.underlying9 wu) trodAll_mk0)
end Go.Proofs.YtgamebffdcpjaaaGreatDoor
