/- What operations cost (where the names are not reached). -/
import Derived.Test.YthnhilghjadigaaGreatDoorKC1
import Derived.Lib.LaidTab
namespace Go.Proofs.YthnhilghjadigaaGreatDoor
open Go.RowKit Go.Deep
set_option linter.unusedVariables false
def isOp (op : Int) : Bool := decide (1 ≤ op ∧ op ≤ 43)
theorem opsis_calls (op : Int) (w : World) : Calls Tryz.prog 97 #[.int .i64 op] w fun e w' => e = .returned (.bool (isOp op)) ∧ w = w' := by
 by_cases h0 : 1 ≤ op
 · have d0 : decide (op ≥ 1) = true := by simpa using h0
   have e : isOp op = decide (op ≤ 43) := by unfold isOp; simp [h0]
   rw [e]
   go_enter Tryz.func97, Tryz.ntmps97
   go_wp2
   go_ret
   exact ⟨rfl, rfl⟩
 · have d0 : decide (op ≥ 1) = false := by simpa using h0
   have e : isOp op = false := by unfold isOp; simp; omega
   rw [e]
   go_enter Tryz.func97, Tryz.ntmps97
   go_wp2
   go_ret
   exact ⟨rfl, rfl⟩
def costsL : List Int := [1, 1, 1, 1, 1, 1, 1, 1, 1, 1, 1, 1, 1, 1, 1, 1, 1, 3, 3, 3, 3, 2, 2, 1, 1, 1, 1, 1, 1, 1, 1, 1, 1, 2, 2, 1, 1, 1, 3, 3, 3, 1, 1]
abbrev CTab (w : World) : Prop := Lib.TabIs Tryz.prog w "astrolabe/ops.costs" .i64 costsL
def l3 : List Int := [18, 19, 20, 21, 39, 40, 41]
def l2 : List Int := [22, 23, 34, 35]
def costOf (op : Int) : Int := if isOp op = true then (if op ∈ l3 then 3 else if op ∈ l2 then 2 else 1) else 0
theorem costs_all : ((List.range 43).all fun k => decide (costOf ((k : Int) + 1) = costsL.getD k 0)) = true := by kernel_rfl
theorem cost_at (op : Int) (h : isOp op = true) : costOf op = costsL.getD (op - 1).toNat 0 := by
 have h := of_decide_eq_true h
 have := of_decide_eq_true (List.all_eq_true.1 costs_all (op - 1).toNat (List.mem_range.2 (by omega)))
 rwa [show (((op - 1).toNat : Nat) : Int) + 1 = op by omega] at this
set_option maxRecDepth 100000 in
set_option maxHeartbeats 1000000 in
theorem cost_calls (op : Int) (w : World) (hc : CTab w) : Calls Tryz.prog 143 #[.int .i64 op] w fun e w' => e = .returned (.int .i64 (costOf op)) ∧ w = w' := by
 cases h : isOp op with
 | false =>
  have e : costOf op = 0 := by unfold costOf; rw [h]; rfl
  rw [e]
  clear hc
  go_enter Tryz.func143, Tryz.ntmps143
  go_wp2_with fail
  refine (opsis_calls _ _).mono ?_
  rintro e w1 ⟨rfl, rfl⟩
  rw [h]
  go_wp2
  go_ret
  exact ⟨rfl, rfl⟩
 | true =>
  have e := cost_at op h
  rw [e]
  have h' := of_decide_eq_true h
  have hcell := hc.cell (g := 1) (by kernel_rfl) (op - 1).toNat (show _ < 43 by omega)
  have hw : wrap64 (op - 1) = ((op - 1).toNat : Int) := by unfold wrap64; omega
  have hk : (op - 1).toNat < 43 := by omega
  generalize (op - 1).toNat = k at *
  generalize costsL.getD k 0 = x at *
  clear hc e h'
  go_enter Tryz.func143, Tryz.ntmps143
  go_wp2_with fail
  refine (opsis_calls _ _).mono ?_
  rintro e w1 ⟨rfl, rfl⟩
  rw [h]
  clear h
  go_wp2
  go_ret
  exact ⟨rfl, rfl⟩
end Go.Proofs.YthnhilghjadigaaGreatDoor
