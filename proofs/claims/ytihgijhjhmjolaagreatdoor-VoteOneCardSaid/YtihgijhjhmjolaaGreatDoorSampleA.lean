/- sample.all: its numbers, one after another. -/
import Derived.RangeFuncNested
import Derived.RangeFuncBound
import Derived.RangeFuncCalls
import Derived.RangeFuncLeaves
import Derived.Shelf.Abstract
import Derived.Shelf.RegionOpen
import Derived.WalkKit
import Derived.OwnWalkIn
import Derived.TacticsInMore
import Derived.LoopNIn
import Derived.LoopIn
import Derived.Sort.QuietTacIn
import Derived.Test.YtihgijhjhmjolaaGreatDoorVP1
import Derived.Test.YtihgijhjhmjolaaGreatDoorProg
namespace Go.Proofs.YtihgijhjhmjolaaGreatDoor
open Go.RowKit Go.Deep Go.Shelf
set_option linter.unusedVariables false
attribute [local go_sem] Oper.semAt_some
def encP (sb : Nat) (x : Fin 9) : Array Value := #[.int .i64 (x.val : Int), .pointer (some ⟨sb, x.val, none⟩)]
theorem take9 (k : Nat) (hk : k < 9) : (List.finRange 9).take (k + 1) = (List.finRange 9).take k ++ [⟨k, hk⟩] := by
 rw [List.take_add_one, List.getElem?_eq_getElem (by simpa using hk), List.getElem_finRange]; rfl
set_option maxRecDepth 100000 in
set_option maxHeartbeats 4000000 in
theorem sall_stops (n p sb : Nat) (hn : 1 ≤ n) (w : World) (hp : w.cell? ⟨p, 0, none⟩ = some (.pointer (some ⟨sb, 0, none⟩))) :
 SeqStopsK Fence.wide n Tryz.prog 85 #[.pointer (some ⟨p, 0, none⟩)] (encP sb) (fun _ _ => True) (fun xs => xs = List.finRange 9) (fun _ => True) 9 w := by
 intro l J Jx W hW hJ hJx hY h0
 have hpl : p < w.heap.size := World.block_lt_of_cell? w _ hp
 have hpW : W.cell? ⟨p, 0, none⟩ = some (.pointer (some ⟨sb, 0, none⟩)) := (hW.cell (p := ⟨p, 0, none⟩) hpl).trans hp
 clear hp
 refine callsIn_of_wp Tryz.func85 rfl trivial ?_ rfl
 simp only [Tryz.ntmps85, List.size_toArray, List.length_cons, List.length_nil, Nat.reduceAdd, Nat.reduceSub, Array.replicate_succ, Array.replicate_zero, List.push_toArray, List.append_toArray, List.nil_append, List.cons_append]
 gi_wp2_with fail
 gi_quiet_th (fail)
 have h1 : J [] (W.drewN nq) := hJ _ _ _ none h0 (⟨rfl, rfl, rfl, Nat.le_refl _, fun _ _ _ => rfl⟩) (fun r e => by cases e)
 generalize W.drewN nq = w1 at h1 ⊢
 clear hpW hW h0 hJ hJx hpl
 gi_wp2_with fail
 gi_loopw [16] (fun v wr => ∃ i : Nat, v = .int .i64 (i : Int) ∧ i ≤ 3 ∧ J ((List.finRange 9).take (3 * i)) wr) (fun v _ => 3 - (intOf v).toNat)
 case atStart => exact ⟨0, rfl, by omega, h1⟩
 case round =>
  clear h1
  obtain ⟨i, rfl, hi, hj⟩ := hrel
  by_cases hlt : i < 3
  · rcases (by omega : i = 0 ∨ i = 1 ∨ i = 2) with rfl | rfl | rfl
    · have ix : ∀ w, (Instr.index 141 (.agg #[.pointer (some ⟨sb, 0, none⟩), .pointer (some ⟨sb, 3, none⟩), .pointer (some ⟨sb, 6, none⟩)]) (.int .i64 0)).run Tryz.prog w = .ok (.pointer (some ⟨sb, 0, none⟩)) w := fun _ => by kernel_rfl
      rw [show ((0 : Nat) : Int) = 0 from rfl]
      gi_wp2_with fail
      gi_loopw [20] (fun v w_ => ∃ k : Nat, v = .int .i64 (k : Int) ∧ k ≤ 3 ∧ J ((List.finRange 9).take (0 + k)) w_) (fun v _ => 3 - (intOf v).toNat)
      case atStart => exact ⟨0, rfl, by omega, hj⟩
      case round =>
       clear hj
       obtain ⟨k, rfl, hk, hj⟩ := hrel
       by_cases hlk : k < 3
       · obtain ⟨fn, tmps, assign, body, hy, hR⟩ := hY _ (⟨0 + k, by omega⟩ : Fin 9) wr hj (by simp; omega)
         rw [← take9 (0 + k) (by omega)] at hR
         have ea : encP sb ⟨0 + k, by omega⟩ = #[.int .i64 (k : Int), .pointer (some ⟨sb, k, none⟩)] := by unfold encP; simp
         rw [ea] at hy
         clear hY ea
         gi_wp2
         refine hR.mono ?_
         rintro e W3 (⟨rfl, hJ3, _⟩ | ⟨rfl, hJx3⟩)
         · gi_wp2
           go_roundw
           case rel => exact ⟨k + 1, by simp, by omega, hJ3⟩
           case measure => simp [intOf]; omega
         · gi_wp2
           refine bodyPost_ret (results_none rfl _ _ _) rfl ?_
           exact ⟨⟨_, rfl⟩, .inr ⟨_, trivial, hJx3⟩⟩
       · obtain rfl : k = 3 := by omega
         gi_wp2
         go_roundw
         case rel => exact ⟨1, by first | rfl | simp, by omega, hj⟩
         case measure => simp [intOf]
    · have ix : ∀ w, (Instr.index 141 (.agg #[.pointer (some ⟨sb, 0, none⟩), .pointer (some ⟨sb, 3, none⟩), .pointer (some ⟨sb, 6, none⟩)]) (.int .i64 1)).run Tryz.prog w = .ok (.pointer (some ⟨sb, 3, none⟩)) w := fun _ => by kernel_rfl
      rw [show ((1 : Nat) : Int) = 1 from rfl]
      gi_wp2_with fail
      gi_loopw [20] (fun v w_ => ∃ k : Nat, v = .int .i64 (k : Int) ∧ k ≤ 3 ∧ J ((List.finRange 9).take (3 + k)) w_) (fun v _ => 3 - (intOf v).toNat)
      case atStart => exact ⟨0, rfl, by omega, hj⟩
      case round =>
       clear hj
       obtain ⟨k, rfl, hk, hj⟩ := hrel
       by_cases hlk : k < 3
       · obtain ⟨fn, tmps, assign, body, hy, hR⟩ := hY _ (⟨3 + k, by omega⟩ : Fin 9) wr hj (by simp; omega)
         rw [← take9 (3 + k) (by omega)] at hR
         have ea : encP sb ⟨3 + k, by omega⟩ = #[.int .i64 (3 + (k : Int)), .pointer (some ⟨sb, 3 + k, none⟩)] := by unfold encP; rfl
         rw [ea] at hy
         clear hY ea
         gi_wp2
         refine hR.mono ?_
         rintro e W3 (⟨rfl, hJ3, _⟩ | ⟨rfl, hJx3⟩)
         · gi_wp2
           go_roundw
           case rel => exact ⟨k + 1, by simp, by omega, hJ3⟩
           case measure => simp [intOf]; omega
         · gi_wp2
           refine bodyPost_ret (results_none rfl _ _ _) rfl ?_
           exact ⟨⟨_, rfl⟩, .inr ⟨_, trivial, hJx3⟩⟩
       · obtain rfl : k = 3 := by omega
         gi_wp2
         go_roundw
         case rel => exact ⟨2, by first | rfl | simp, by omega, hj⟩
         case measure => simp [intOf]
    · have ix : ∀ w, (Instr.index 141 (.agg #[.pointer (some ⟨sb, 0, none⟩), .pointer (some ⟨sb, 3, none⟩), .pointer (some ⟨sb, 6, none⟩)]) (.int .i64 2)).run Tryz.prog w = .ok (.pointer (some ⟨sb, 6, none⟩)) w := fun _ => by kernel_rfl
      rw [show ((2 : Nat) : Int) = 2 from rfl]
      gi_wp2_with fail
      gi_loopw [20] (fun v w_ => ∃ k : Nat, v = .int .i64 (k : Int) ∧ k ≤ 3 ∧ J ((List.finRange 9).take (6 + k)) w_) (fun v _ => 3 - (intOf v).toNat)
      case atStart => exact ⟨0, rfl, by omega, hj⟩
      case round =>
       clear hj
       obtain ⟨k, rfl, hk, hj⟩ := hrel
       by_cases hlk : k < 3
       · obtain ⟨fn, tmps, assign, body, hy, hR⟩ := hY _ (⟨6 + k, by omega⟩ : Fin 9) wr hj (by simp; omega)
         rw [← take9 (6 + k) (by omega)] at hR
         have ea : encP sb ⟨6 + k, by omega⟩ = #[.int .i64 (6 + (k : Int)), .pointer (some ⟨sb, 6 + k, none⟩)] := by unfold encP; rfl
         rw [ea] at hy
         clear hY ea
         gi_wp2
         refine hR.mono ?_
         rintro e W3 (⟨rfl, hJ3, _⟩ | ⟨rfl, hJx3⟩)
         · gi_wp2
           go_roundw
           case rel => exact ⟨k + 1, by simp, by omega, hJ3⟩
           case measure => simp [intOf]; omega
         · gi_wp2
           refine bodyPost_ret (results_none rfl _ _ _) rfl ?_
           exact ⟨⟨_, rfl⟩, .inr ⟨_, trivial, hJx3⟩⟩
       · obtain rfl : k = 3 := by omega
         gi_wp2
         go_roundw
         case rel => exact ⟨3, by first | rfl | simp, by omega, hj⟩
         case measure => simp [intOf]
  · obtain rfl : i = 3 := by omega
    gi_wp2
    go_end0
    exact ⟨⟨_, rfl⟩, .inl ⟨_, rfl, hj⟩⟩
end Go.Proofs.YtihgijhjhmjolaaGreatDoor
