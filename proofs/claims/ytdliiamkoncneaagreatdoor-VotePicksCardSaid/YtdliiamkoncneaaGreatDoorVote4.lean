/- Who is nobody: a panel that is none, and one that New has not made. -/
import Derived.Test.YtdliiamkoncneaaGreatDoorVote3
import Derived.Laws.StructEq
import Derived.Laws.Tables
namespace Go.Proofs.YtdliiamkoncneaaGreatDoor
open Go.RowKit Go.Deep
set_option linter.unusedVariables false
def noF : Value := .tuple #[.slice none 0 0, .int .i64 (-1), .int .i64 1]
set_option maxRecDepth 100000 in
theorem feed_nil (w : World) : Calls Tryz.prog 7 #[.pointer none, .slice none 0 0, .slice none 0 0, .slice none 0 0] w fun e w' => e = .returned noF ∧ w = w' := by
  go_enter Tryz.func7, Tryz.ntmps7
  go_wp2
  go_ret3
  exact ⟨rfl, rfl⟩
set_option maxRecDepth 100000 in
theorem feed_bad (g : Nat) (w : World) (h : w.cell? ⟨g, 10, none⟩ = some (.bool false)) : Calls Tryz.prog 7 #[.pointer (some ⟨g, 0, none⟩), .slice none 0 0, .slice none 0 0, .slice none 0 0] w fun e w' => e = .returned noF ∧ w = w' := by
  go_enter Tryz.func7, Tryz.ntmps7
  go_wp2
  go_ret3
  exact ⟨rfl, rfl⟩
set_option maxRecDepth 100000 in
theorem reset_nil (w : World) : Calls Tryz.prog 8 #[.pointer none] w fun e w' => e = .returned (.int .i64 1) ∧ w = w' := by
  go_enter Tryz.func8, Tryz.ntmps8
  go_wp2
  go_ret
  exact ⟨rfl, rfl⟩
set_option maxRecDepth 100000 in
theorem reset_bad (g : Nat) (w : World) (h : w.cell? ⟨g, 10, none⟩ = some (.bool false)) : Calls Tryz.prog 8 #[.pointer (some ⟨g, 0, none⟩)] w fun e w' => e = .returned (.int .i64 1) ∧ w = w' := by
  go_enter Tryz.func8, Tryz.ntmps8
  go_wp2
  go_ret
  exact ⟨rfl, rfl⟩
def st0 : Value := .agg #[.int .i32 0, .int .i32 0, .int .i32 0, .int .i32 0, .int .i64 0, .int .i64 0, .int .i64 0]
def od0 : Value := .agg #[.int .i64 0, .int .i64 0, .int .i64 0]
set_option maxRecDepth 100000 in
set_option maxHeartbeats 1000000 in
theorem state_nil (w : World) : Calls Tryz.prog 9 #[.pointer none] w fun e w' => e = .returned (.agg #[.int .i32 0, .int .i32 0, .int .i32 0, .int .i32 0, .int .i64 0, .int .i64 0, .int .i64 0]) ∧ Chg w w' [] := by
  have k0 := Blk.new w 32 [.int .i32 0, .int .i32 0, .int .i32 0, .int .i32 0, .int .i64 0, .int .i64 0, .int .i64 0]
  have z0 := k0.cell' (i := 0) rfl
  have f0 := k0.frozen 0
  have z1 := k0.cell' (i := 1) rfl
  have f1 := k0.frozen 1
  have z2 := k0.cell' (i := 2) rfl
  have f2 := k0.frozen 2
  have z3 := k0.cell' (i := 3) rfl
  have f3 := k0.frozen 3
  have z4 := k0.cell' (i := 4) rfl
  have f4 := k0.frozen 4
  have z5 := k0.cell' (i := 5) rfl
  have f5 := k0.frozen 5
  have z6 := k0.cell' (i := 6) rfl
  have f6 := k0.frozen 6
  clear k0
  go_enter Tryz.func9, Tryz.ntmps9
  go_wp2
  refine bodyPost_ret (v := (.agg #[.int .i32 0, .int .i32 0, .int .i32 0, .int .i32 0, .int .i64 0, .int .i64 0, .int .i64 0])) (by simp [results, Tryz.f9, go_sem]) rfl ⟨rfl, (Chg.refl w []).alloc _⟩
set_option maxRecDepth 100000 in
set_option maxHeartbeats 1000000 in
theorem odd_bad (g : Nat) (w : World) (h7 : w.cell? ⟨g, 7, none⟩ = some (.int .i64 0)) (h8 : w.cell? ⟨g, 8, none⟩ = some (.int .i64 0)) (h9 : w.cell? ⟨g, 9, none⟩ = some (.int .i64 0)) : Calls Tryz.prog 10 #[.pointer (some ⟨g, 0, none⟩)] w fun e w' => e = .returned (.agg #[.int .i64 0, .int .i64 0, .int .i64 0]) ∧ Chg w w' [] := by
  have k0 := Blk.new w 33 [.int .i64 0, .int .i64 0, .int .i64 0]
  have z0 := k0.cell' (i := 0) rfl
  have f0 := k0.frozen 0
  have z1 := k0.cell' (i := 1) rfl
  have f1 := k0.frozen 1
  have z2 := k0.cell' (i := 2) rfl
  have f2 := k0.frozen 2
  have y7 := ((Chg.refl w []).alloc (.cells #[.int .i64 0, .int .i64 0, .int .i64 0] 33)).cell h7 (by simp)
  have y8 := ((Chg.refl w []).alloc (.cells #[.int .i64 0, .int .i64 0, .int .i64 0] 33)).cell h8 (by simp)
  have y9 := ((Chg.refl w []).alloc (.cells #[.int .i64 0, .int .i64 0, .int .i64 0] 33)).cell h9 (by simp)
  clear k0
  go_enter Tryz.func10, Tryz.ntmps10
  go_wp2
  refine bodyPost_ret (v := (.agg #[.int .i64 0, .int .i64 0, .int .i64 0])) (by simp [results, Tryz.f10, go_sem]) rfl ⟨rfl, (Chg.refl w []).alloc _⟩
theorem eq_st0 (w : World) : (Op.equalIn 10000 32 st0 st0).run Tryz.prog w = .ok true w := by kernel_rfl
theorem eq_q0 (w : World) : (Op.equalIn 9999 30 (.agg #[.int .i32 0, .int .i32 0, .int .i32 0, .int .i32 0]) (.agg #[.int .i32 0, .int .i32 0, .int .i32 0, .int .i32 0])).run Tryz.prog w = .ok true w := by kernel_rfl
theorem eq_od0 (w : World) : (Op.equalIn 10000 33 od0 od0).run Tryz.prog w = .ok true w := by kernel_rfl
end Go.Proofs.YtdliiamkoncneaaGreatDoor
