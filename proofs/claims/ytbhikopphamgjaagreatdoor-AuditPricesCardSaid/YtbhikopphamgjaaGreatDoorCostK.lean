/- What operations cost (where the names are not reached). -/
import Derived.Test.YtbhikopphamgjaaGreatDoorAU1
import Derived.Lib.LaidTab
set_option linter.unusedVariables false
namespace Go.Proofs.YtbhikopphamgjaaGreatDoor
open Go.RowKit Go.Deep
def Eu (op:Int):Bool:=decide (1<=op/\op<=43)
theorem Ho (op:Int) (w:World):Calls Tryz.prog 173 #[.int .i64 op] w fun e w' => e = .returned (.bool (Eu op))/\w = w':=by
 by_cases h0:1<=op
 . have d0:decide (op >= 1) = true:=by simpa using h0
   have e:Eu op = decide (op<=43):=by unfold Eu; simp [h0]
   rw [e];go_enter Tryz.func173,Tryz.ntmps173
   go_wp2;go_ret;exact ⟨rfl,rfl⟩
 . have d0:decide (op >= 1) = false:=by simpa using h0
   have e:Eu op = false:=by unfold Eu; simp; omega
   rw [e];go_enter Tryz.func173,Tryz.ntmps173
   go_wp2;go_ret;exact ⟨rfl,rfl⟩
def Ew:List Int:=[1,1,1,1,1,1,1,1,1,1,1,1,1,1,1,1,1,3,3,3,3,2,2,1,1,1,1,1,1,1,1,1,1,2,2,1,1,1,3,3,3,1,1]
abbrev tX (w : World) : Prop := Lib.TabIs Tryz.prog w "astrolabe/ops.costs" .i64 Ew
def l3:List Int:=[18,19,20,21,39,40,41]
def l2:List Int:=[22,23,34,35]
def qc (op:Int):Int:=if Eu op = true then (if op∈l3 then 3 else if op∈l2 then 2 else 1) else 0
theorem abf:((List.range 43).all fun k => decide (qc ((k:Int) + 1) = Ew.getD k 0)) = true:=by kernel_rfl
theorem ahi (op:Int) (h:Eu op = true):qc op = Ew.getD (op - 1).toNat 0:=by
 have h:=of_decide_eq_true h;have:=of_decide_eq_true (List.all_eq_true.1 abf (op - 1).toNat (List.mem_range.2 (by omega)));rwa [show (((op - 1).toNat:Nat):Int) + 1 = op by omega] at this
set_option maxRecDepth 100000 in
set_option maxHeartbeats 1000000 in
theorem wR (op:Int) (w:World) (hc:tX w):Calls Tryz.prog 210 #[.int .i64 op] w fun e w' => e = .returned (.int .i64 (qc op))/\w = w':=by
 cases h:Eu op with
 | false =>
  have e:qc op = 0:=by unfold qc; rw [h]; rfl
  rw [e];clear hc;go_enter Tryz.func210,Tryz.ntmps210
  go_wp2_with fail
  refine (Ho _ _).mono ?_;rintro e w1 ⟨rfl,rfl⟩;rw [h];go_wp2;go_ret;exact ⟨rfl,rfl⟩
 | true =>
  have e:=ahi op h;rw [e];have h':=of_decide_eq_true h;have hcell:=hc.cell (g:=4) (by kernel_rfl) (op - 1).toNat (show _ < 43 by omega);have hw:wrap64 (op - 1) = ((op - 1).toNat:Int):=by unfold wrap64; omega
  have hk:(op - 1).toNat < 43:=by omega
  generalize (op - 1).toNat = k at *;generalize Ew.getD k 0 = x at *;clear hc e h';go_enter Tryz.func210,Tryz.ntmps210
  go_wp2_with fail
  refine (Ho _ _).mono ?_;rintro e w1 ⟨rfl,rfl⟩;rw [h];clear h;go_wp2;go_ret;exact ⟨rfl,rfl⟩
end Go.Proofs.YtbhikopphamgjaaGreatDoor
