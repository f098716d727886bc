/- The program's builder: what it has in memory. -/
import Derived.Test.YtjfnpokebaagmaaGreatDoorLabF
namespace Go.Proofs.YtjfnpokebaagmaaGreatDoor
open Go.RowKit Go.Deep Go.Maps
set_option linter.unusedVariables false
attribute [local go_sem] Oper.semAt_some
def insCells (i : Ins5) : List Value := [.int .i64 i.op, .int .i64 i.d, .int .i64 i.a, .int .i64 i.b, .int .i64 i.n]
def insVal (i : Ins5) : Value := .agg #[.int .i64 i.op, .int .i64 i.d, .int .i64 i.a, .int .i64 i.b, .int .i64 i.n]
def codeCells (l : List Ins5) : List Value := l.flatMap insCells
theorem codeCells_snoc (l : List Ins5) (i : Ins5) : codeCells (l ++ [i]) = codeCells l ++ insCells i := by simp [codeCells]
structure PBS (w : World) (b t m : Nat) (cv uv : Value) (n : Nat) (bm : BM) : Prop where
 blk : Blk w b 59 [.pointer (some ⟨t, 0, none⟩), cv]
 tab : PT w t m uv n bm.defs bm.uses
 row : w.ownsRow 0 25 5 cv bm.code.length (codeCells bm.code)
def footP (b t m : Nat) (cv uv : Value) : List Nat := [b] ++ cv.ownBlock.toList ++ footT t m uv
def PB (w : World) (b : Nat) (bm : BM) (F : List Nat) : Prop := ∃ t m cv uv n, PBS w b t m cv uv n bm ∧ F = footP b t m cv uv ∧ n ≤ bm.defs.length
theorem PBS.chg {w w' : World} {b t m n : Nat} {cv uv : Value} {bm : BM} {D : List Nat} (h : PBS w b t m cv uv n bm) (hc : Chg w w' D) (hD : ∀ k ∈ footP b t m cv uv, k ∉ D) : PBS w' b t m cv uv n bm where
 blk := h.blk.chg hc (hD b (by simp [footP]))
 tab := h.tab.chg hc (fun k hk => hD k (by simp [footP, hk]))
 row := own_chgD h.row hc (fun g hg => hD g (by simp [footP, hg]))
theorem PB.chg {w w' : World} {b : Nat} {bm : BM} {F D : List Nat} (h : PB w b bm F) (hc : Chg w w' D) (hD : ∀ k ∈ F, k ∉ D) : PB w' b bm F := by
 obtain ⟨t, m, cv, uv, n, hp, rfl, hn⟩ := h
 exact ⟨t, m, cv, uv, n, hp.chg hc hD, rfl, hn⟩
def Sub (F' F : List Nat) (w : World) : Prop := ∀ k ∈ F', k ∈ F ∨ w.heap.size ≤ k
theorem Sub.refl (F : List Nat) (w : World) : Sub F F w := fun k hk => .inl hk
section
variable {w : World} {b t m n : Nat} {cv uv : Value} {bm : BM}
set_option maxRecDepth 100000 in
theorem blive_calls (h : PBS w b t m cv uv n bm) : Calls Tryz.prog 33 #[.pointer (some ⟨b, 0, none⟩)] w fun e w' => e = .returned (.bool true) ∧ w = w' := by
 have c0 := h.blk.cell' (i := 0) rfl
 clear h
 go_enter Tryz.func33, Tryz.ntmps33
 go_wp2
 go_ret
 exact ⟨rfl, rfl⟩
end
theorem reg_calls (d : Int) (w : World) : Calls Tryz.prog 38 #[.int .i64 d] w fun e w' => e = .returned (.bool (regB d)) ∧ w = w' := by
 go_enter Tryz.func38, Tryz.ntmps38
 go_wp2
 all_goals
  go_ret
  refine ⟨ret_bool ?_, rfl⟩
  unfold regB
  rw [Bool.eq_iff_iff]
  simp
  omega
theorem goes_calls (d : Int) (w : World) : Calls Tryz.prog 45 #[.int .i64 d] w fun e w' => e = .returned (.bool (goesB d)) ∧ w = w' := by
 go_enter Tryz.func45, Tryz.ntmps45
 go_wp2
 all_goals
  go_ret
  refine ⟨ret_bool ?_, rfl⟩
  unfold goesB
  rw [Bool.eq_iff_iff]
  simp
  omega
end Go.Proofs.YtjfnpokebaagmaaGreatDoor
