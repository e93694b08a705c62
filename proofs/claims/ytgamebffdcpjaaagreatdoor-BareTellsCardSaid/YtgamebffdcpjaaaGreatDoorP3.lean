/- Proved: for every bare item and every text the Go function causeylaw12.BareTells returns true and leaves its arguments alone (bareTells_card : Rows.BareTellsCardSaid). Conditions: none beyond the given row's own (the listed variables of Go's library stand as the program's text lays them; the card ties them). -/
import Derived.Test.YtgamebffdcpjaaaGreatDoorP2
namespace Go.Proofs.YtgamebffdcpjaaaGreatDoor
open Go.ChangeShapes Go.WideShapes Go.ChangeAt Go.RowKit
set_option maxRecDepth 1000000

theorem bare_witness (os : Os) {H : Type} (enc : TypeId × Value → H) :
    (OpenSpec.ofChange Rows.bareTellsSpec).preRow enc Tryz.prog Tryz.f3 Rows.bareTellsRow.domain false Rows.bareTellsRow.laid ((laidWorld os).forCall (fun _ _ => 0) ⟨#[], #[bV 0 0 ⟨#[]⟩ false, .string ⟨#[]⟩], []⟩).memory #[bV 0 0 ⟨#[]⟩ false, .string ⟨#[]⟩] := by
  have hw : (DataW.whole enc Tryz.prog ((laidWorld os).forCall (fun _ _ => 0) ⟨#[], #[bV 0 0 ⟨#[]⟩ false, .string ⟨#[]⟩], []⟩).memory Tryz.f3.params.toList Rows.bareTellsSpec.vars false #[bV 0 0 ⟨#[]⟩ false, .string ⟨#[]⟩].toList 8).map (fun x => (x.1, x.2.1)) =
      some ([.agg [.lit (.int .u8 0), .lit (.int .i64 0), .lit (.string []), .lit (.bool false)], .lit (.string [])], []) := by kernel_rfl
  obtain ⟨⟨x1, x2, x3⟩, hx, hx1⟩ := Option.map_eq_some_iff.1 hw
  simp only [Prod.mk.injEq] at hx1
  obtain ⟨rfl, rfl⟩ := hx1
  exact OpenSpec.preRow_of_cond 8 hx (by kernel_rfl) (fun k hk => by cases hk) (by kernel_rfl) (laid_in os _).met

theorem bare_lifted (os : Os) (started : os.Started) (H : Type) (enc : TypeId × Value → H) (F : Stop.Interp) :
    ReturnsInHanded {} Tryz.checked os 3 .any ((OpenSpec.ofChange Rows.bareTellsSpec).preRow enc Tryz.prog Tryz.f3 Rows.bareTellsRow.domain false Rows.bareTellsRow.laid) (((OpenSpec.ofChange Rows.bareTellsSpec).at F).post enc Tryz.prog Tryz.f3 false true false false) := by
  refine returnsInHanded_of_row (C := Tryz.checked) (s := OpenSpec.ofChange Rows.bareTellsSpec) knob started (by kernel_rfl) Tryz.func3
    (witness_row_atRef (enc := enc) (C := Tryz.checked) false (laidWorld os) #[bV 0 0 ⟨#[]⟩ false, .string ⟨#[]⟩] rfl (by kernel_rfl) (by kernel_rfl) (by kernel_rfl) (bare_witness os enc)) ?_
  intro W base args ds gs before hval hW _ _ _ hL hS _
  exact bare_contract H enc W base args ds gs before hval hW (env_of hL hS)

theorem bareTells_said : Rows.BareTellsSaid :=
  OpenClaim.holds_of_cond 3 Tryz.f3 rfl rfl rfl rfl rfl rfl rfl ⟨rfl, rfl, rfl, rfl, rfl⟩ rfl rfl rfl rfl rfl (by kernel_rfl) Tryz.func3 (by kernel_rfl)
    (of_decide_eq_true (by kernel_rfl)) (by unfold Func.isWrapper; first | (rw [if_pos (by decide +kernel)]; kernel_rfl) | (rw [if_neg (by decide +kernel)]; exact ⟨rfl, rfl⟩))
    (fun os started H enc _ F => by rw [OpenClaim.pre_eq_preRow]; exact bare_lifted os started H enc F)

theorem bare_plain (f : FuncId) (fn : Func) (hf : Tryz.pinned.checked.prog.funcNamed "causey/causeylaw12.BareTells" = some f) (hfn : Tryz.pinned.checked.prog.funcs[f]? = some fn) :
    true = Tryz.pinned.checked.prog.looks [] ∧ ∀ (j : Nat) t, fn.params[j]? = some t → Tryz.pinned.checked.prog.wantsStandIn t = false := by
  obtain rfl : f = 3 := Option.some.inj ((show Tryz.prog.funcNamed "causey/causeylaw12.BareTells" = some 3 by kernel_rfl).symm.trans hf) |>.symm
  obtain rfl : fn = Tryz.f3 := (Option.some.inj (Tryz.func3.symm.trans hfn)).symm
  refine ⟨by kernel_rfl, fun j t ht => ?_⟩
  rw [Tryz.params3] at ht
  have : t ∈ #[23, 9] := Array.mem_of_getElem? ht
  simp at this
  rcases this with rfl | rfl
  · exact (show Tryz.prog.wantsStandIn 23 = false by kernel_rfl)
  · exact (show Tryz.prog.wantsStandIn 9 = false by kernel_rfl)

theorem bareTells_card : Rows.BareTellsCardSaid :=
  Claim7.holds_tied_plain_at .later [] _ _ _ _ bareTells_said (fun _ h => by cases h) (by kernel_rfl) (fun _ h => by cases h) bareTells_row_tie rfl ⟨rfl, rfl⟩ (by kernel_rfl) rfl bare_plain (by kernel_rfl)
#print axioms bareTells_card
end Go.Proofs.YtgamebffdcpjaaaGreatDoor
