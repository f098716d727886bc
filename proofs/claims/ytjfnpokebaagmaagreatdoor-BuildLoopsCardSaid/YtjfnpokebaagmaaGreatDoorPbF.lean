/- The program's builder: how many instructions there are; a new one. -/
import Derived.Test.YtjfnpokebaagmaaGreatDoorPbE
namespace Go.Proofs.YtjfnpokebaagmaaGreatDoor
open Go.RowKit Go.Deep Go.Maps
set_option linter.unusedVariables false
attribute [local go_sem] Oper.semAt_some
set_option maxRecDepth 100000 in
theorem len_calls {w : World} {b : Nat} {bm : BM} {F : List Nat} (h : PB w b bm F) : Calls Tryz.prog 11 #[.pointer (some ⟨b, 0, none⟩)] w fun e w' => e = .returned (.int .i64 bm.code.length) ∧ w = w' := by
 have hlv := h.live
 obtain ⟨t, m, cv, uv, n, hp, rfl, hn⟩ := h
 have c1 := hp.blk.cell' (i := 1) rfl
 obtain ⟨A, c, rfl⟩ := own_slice hp.row
 clear hp
 go_enter Tryz.func11, Tryz.ntmps11
 go_wp2_with (go_at_call 33; refine hlv.mono ?_; rintro e w1 ⟨rfl, rfl⟩)
 go_ret
 exact ⟨rfl, rfl⟩
set_option maxRecDepth 100000 in
theorem lnew_calls (w : World) : Calls Tryz.prog 25 #[] w fun e w' => e = .returned (.pointer (some ⟨w.heap.size + 1, 0, none⟩)) ∧ w' = (w.alloc (.map #[] 0)).alloc (.cells #[.map (some w.heap.size), .slice none 0 0] 94) := by
 have hmm := @run_makeMap Tryz.prog
 go_enter Tryz.func25, Tryz.ntmps25
 go_wp2
 go_ret
 exact ⟨rfl, rfl⟩
set_option maxRecDepth 100000 in
theorem new_calls (w : World) : Calls Tryz.prog 6 #[] w fun e w' => ∃ b F, e = .returned (.pointer (some ⟨b, 0, none⟩)) ∧ Chg w w' [] ∧ PB w' b ⟨[], [], []⟩ F ∧ ∀ k ∈ F, w.heap.size ≤ k := by
 have hl := lnew_calls w
 go_enter Tryz.func6, Tryz.ntmps6
 go_wp2_with fail
 go_at_call 25
 refine hl.mono ?_
 rintro e w1 ⟨rfl, hw⟩
 have hM : MapI w1 9 w.heap.size 0 (defF []) := by
  rw [hw]
  have h := (MapI.made w 9).alloc (.cells #[.map (some w.heap.size), .slice none 0 0] 94)
  have e : (fun _ => none : Lit → Option Int) = defF [] := by funext k; cases k <;> rfl
  rw [e] at h
  exact h
 have hT : Blk w1 (w.heap.size + 1) 94 [.map (some w.heap.size), .slice none 0 0] := by
  rw [hw]
  have h := Blk.new (w.alloc (.map #[] 0)) 94 [.map (some w.heap.size), .slice none 0 0]
  rw [size_alloc] at h
  exact h
 have hC : Chg w w1 [] := by rw [hw]; exact ((Chg.refl w []).alloc _).alloc _
 have hz : w1.heap.size = w.heap.size + 2 := by rw [hw]; simp
 have HM := hide hM
 have HT := hide hT
 have HC := hide hC
 have HZ := hide hz
 clear hw hM hT hC hl hz
 go_wp2
 go_ret
 have hB := Blk.new w1 59 [.pointer (some ⟨w.heap.size + 1, 0, none⟩), .slice none 0 0]
 refine ⟨_, _, rfl, HC.out.alloc _, ⟨w.heap.size + 1, w.heap.size, .slice none 0 0, .slice none 0 0, 0, ⟨hB, ⟨HT.out.alloc _, HM.out.alloc _, World.ownsRow_nil _ _ _ _⟩, World.ownsRow_nil _ _ _ _⟩, rfl, Nat.le_refl _⟩, ?_⟩
 intro k hk
 have := HZ.out
 simp [footP, footT, Value.ownBlock] at hk
 omega
end Go.Proofs.YtjfnpokebaagmaaGreatDoor
