/- The document's builder: what it has in memory; its names. -/
import Derived.Test.YtjfnpokebaagmaaGreatDoorPbD
namespace Go.Proofs.YtjfnpokebaagmaaGreatDoor
open Go.RowKit Go.Deep Go.Maps
set_option linter.unusedVariables false
attribute [local go_sem] Oper.semAt_some
structure RBS (w : World) (x : Nat) (cv dv uv : Value) (bm : BM) : Prop where
 blk : Blk w x 37 [cv, dv, uv]
 rc : w.ownsRow 0 25 5 cv bm.code.length (codeCells bm.code)
 rd : w.ownsRow 0 118 2 dv bm.defs.length (useCells bm.defs)
 ru : w.ownsRow 0 118 2 uv bm.uses.length (useCells bm.uses)
 ne : ∀ g, dv.ownBlock = some g → uv.ownBlock ≠ some g
def footR (x : Nat) (cv dv uv : Value) : List Nat := [x] ++ (cv.ownBlock.toList ++ (dv.ownBlock.toList ++ uv.ownBlock.toList))
def RB (w : World) (x : Nat) (bm : BM) (F : List Nat) : Prop := ∃ cv dv uv, RBS w x cv dv uv bm ∧ F = footR x cv dv uv
theorem RBS.chg {w w' : World} {x : Nat} {cv dv uv : Value} {bm : BM} {D : List Nat} (h : RBS w x cv dv uv bm) (hc : Chg w w' D) (hD : ∀ k ∈ footR x cv dv uv, k ∉ D) : RBS w' x cv dv uv bm where
 blk := h.blk.chg hc (hD x (by simp [footR]))
 rc := own_chgD h.rc hc (fun g hg => hD g (by simp [footR, hg]))
 rd := own_chgD h.rd hc (fun g hg => hD g (by simp [footR, hg]))
 ru := own_chgD h.ru hc (fun g hg => hD g (by simp [footR, hg]))
 ne := h.ne
theorem RB.chg {w w' : World} {x : Nat} {bm : BM} {F D : List Nat} (h : RB w x bm F) (hc : Chg w w' D) (hD : ∀ k ∈ F, k ∉ D) : RB w' x bm F := by
 obtain ⟨cv, dv, uv, hp, rfl⟩ := h
 exact ⟨cv, dv, uv, hp.chg hc hD, rfl⟩
theorem RBS.lt {w : World} {x : Nat} {cv dv uv : Value} {bm : BM} (h : RBS w x cv dv uv bm) : ∀ k ∈ footR x cv dv uv, k < w.heap.size := by
 intro k hk
 simp only [footR, List.mem_append, List.mem_singleton, Option.mem_toList] at hk
 rcases hk with rfl | hk | hk | hk
 · exact h.blk.lt
 · exact (h.rc.lt k hk).2
 · exact (h.rd.lt k hk).2
 · exact (h.ru.lt k hk).2
theorem RB.lt {w : World} {x : Nat} {bm : BM} {F : List Nat} (h : RB w x bm F) : ∀ k ∈ F, k < w.heap.size := by
 obtain ⟨cv, dv, uv, hp, rfl⟩ := h
 exact hp.lt
def GoR (r : Int × BM) (x : Nat) (F : List Nat) (w : World) (e : Ending) (w' : World) : Prop := e = .returned (.int .i64 r.1) ∧ Chg w w' F ∧ ∃ F', Sub F' F w ∧ RB w' x r.2 F'
theorem GoR.mk2 {w w1 w2 : World} {e : Ending} {b : Nat} {F F1 : List Nat} {r : Int × BM} (h : Chg w w1 F) (hs : Sub F1 F w) (h2 : GoR r b F1 w1 e w2) : GoR r b F w e w2 := by
 obtain ⟨rfl, hc, F2, hs2, hp⟩ := h2
 refine ⟨rfl, h.trans hc (fun k hk => hs k hk), F2, fun k hk => ?_, hp⟩
 rcases hs2 k hk with h3 | h3
 · exact hs k h3
 · exact .inr (Nat.le_trans h.size h3)
end Go.Proofs.YtjfnpokebaagmaaGreatDoor
