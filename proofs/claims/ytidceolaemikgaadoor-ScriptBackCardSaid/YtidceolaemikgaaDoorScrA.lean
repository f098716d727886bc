/- Lists of strings in a world; the program's lines of a text and words of a line. -/
import Derived.Test.YtidceolaemikgaaDoorBld
import Derived.Test.YtidceolaemikgaaDoorScriptLaw
import Derived.RangeFuncNested
import Derived.Shelf.RegionOpen
import Derived.TacticsInMore
import Derived.OwnWalkIn
namespace Go.Proofs.YtidceolaemikgaaDoor
open Go.RowKit Go.Deep Go.Shelf
set_option linter.unusedVariables false
attribute [local go_sem] Oper.semAt_some
def strV (l : List UInt8) : Value := .string ⟨l.toArray⟩
def strs (L : List (List UInt8)) : List Value := L.map strV
theorem strs_len (L : List (List UInt8)) : (strs L).length = L.length := by simp [strs]
theorem strs_at (L : List (List UInt8)) (k : Nat) (h : k < L.length) : (strs L)[k]? = some (strV (L.getD k [])) := by simp [strs, h]
/-- The length beyond which the library's search takes another road is some number. -/
def MxL (w : World) : Prop := ∃ m : Int, w.cell? ⟨3, 0, none⟩ = some (.int .i64 m)
theorem MxL.chg {w w' : World} (h : MxL w) (hc : Chg w w' []) : MxL w' := by
  obtain ⟨m, h⟩ := h
  exact ⟨m, hc.cell h (by simp)⟩
theorem split_cells (c : UInt8) (l : List UInt8) : (Lib.splitB ⟨#[c]⟩ 0 (Lib.countB ⟨l.toArray⟩ ⟨#[c]⟩) ⟨l.toArray⟩).map Value.string = strs (cutL c l) := by
  rw [← split_cutL]
  have h := Lib.splitB_data ⟨#[c]⟩ 0 (Lib.countB ⟨l.toArray⟩ ⟨#[c]⟩) ⟨l.toArray⟩
  show _ = strs (Lib.splitK [c] 0 (Lib.count l [c]) l)
  have e : Lib.splitK [c] 0 (Lib.count l [c]) l = (Lib.splitB ⟨#[c]⟩ 0 (Lib.countB ⟨l.toArray⟩ ⟨#[c]⟩) ⟨l.toArray⟩).map (·.data.toList) := h.symm
  rw [e]
  unfold strs
  rw [List.map_map]
  rfl
theorem split_count (c : UInt8) (l : List UInt8) : Lib.countB ⟨l.toArray⟩ ⟨#[c]⟩ + 1 = (cutL c l).length := by
  have h := congrArg List.length (split_cells c l)
  rw [List.length_map, strs_len, Lib.splitB_all ⟨#[c]⟩ (show 1 ≤ 1 from Nat.le_refl _) 0 _ _ rfl] at h
  exact h
theorem split_calls (c : UInt8) (l : List UInt8) (w : World) (hl : l.length ≤ 1000000) (hm : MxL w) :
    Calls Tryd.prog 45 #[strV l, .string ⟨#[c]⟩] w fun e w' => e = .returned (.slice (some ⟨w.heap.size, 0, none⟩) (cutL c l).length (cutL c l).length) ∧ w' = w.alloc (.cells (strs (cutL c l)).toArray 9) := by
  obtain ⟨m, hm⟩ := hm
  refine (Tryd.strings_Split ⟨l.toArray⟩ ⟨#[c]⟩ m w (by simp [ByteArray.size]; omega) hm (show 1 ≤ 1 from Nat.le_refl _)).mono ?_
  rintro e w' ⟨rfl, rfl⟩
  rw [split_cells, ← split_count]
  exact ⟨rfl, rfl⟩
theorem cutL_total (c : UInt8) : ∀ l : List UInt8, (cutL c l).length ≤ l.length + 1 ∧ ∀ x ∈ cutL c l, x.length ≤ l.length
  | [] => by simp [cutL]
  | x :: xs => by
    have ih := cutL_total c xs
    have hg := cutL_glue c xs
    unfold cutL
    split
    · refine ⟨by simp; omega, fun y hy => ?_⟩
      rcases List.mem_cons.1 hy with rfl | hy
      · simp
      · have := ih.2 y hy; simp; omega
    · have h0 := cutL_len c xs
      refine ⟨by simp; omega, fun y hy => ?_⟩
      rcases List.mem_cons.1 hy with rfl | hy
      · have : (cutL c xs).headD [] ∈ cutL c xs := by
          cases h : cutL c xs with
          | nil => rw [h] at h0; simp at h0
          | cons a b => simp
        have := ih.2 _ this
        simp only [List.length_cons]; omega
      · have := ih.2 y (List.mem_of_mem_tail hy); simp; omega
theorem info_str : (Tryd.prog.info? 9).map (fun i => (i.zero, i.size, i.bytes)) = some (some (.string ⟨#[]⟩), 1, 16) := by kernel_rfl
theorem chg_append {W wr w2 : World} {v : Value} {e size n : Nat} {xs : List Value} (hc : Chg W wr []) (hown : wr.ownsRow W.heap.size e size v n xs) (o : Obj) (hg : (wr.alloc o).grownBy w2 v.ownBlock) : Chg W w2 [] := by
  refine (hc.alloc o).trans (D' := v.ownBlock.toList) (Chg.of_grown hg (fun k hk => .inl (by simp [hk]))) (fun k hk => .inr ?_)
  exact (hown.lt k (by simpa using hk)).1
theorem sl_own {w : World} {e base n : Nat} {v : Value} {xs : List Value} (h : w.ownsRow base e 1 v n xs) : Sl w v xs := Sl.own h
theorem lines_calls (l : List UInt8) (w : World) (hl : l.length ≤ 1000000) (hm : MxL w) :
    Calls Tryd.prog 32 #[strV l] w fun e w' => ∃ v, e = .returned v ∧ Sl w' v (strs (linesL l)) ∧ Chg w w' [] := by
  by_cases h0 : l = []
  · subst h0
    unfold strV
    go_enter Tryd.func32, Tryd.ntmps32
    go_wp2
    go_ret
    exact ⟨_, rfl, ⟨none, 0, rfl, Nat.le_refl _, fun h => absurd h (by decide)⟩, Chg.refl _ _⟩
  · have hx : l.isEmpty = false := by simpa using h0
    have hlen : (Lib.trimSuffix l [10]).length ≤ 1000000 := by
      unfold Lib.trimSuffix
      split
      · rw [List.length_take]; omega
      · exact hl
    have e2 : linesL l = cutL 10 (Lib.trimSuffix l [10]) := by unfold linesL; rw [if_neg h0, trimN_eq]
    have hsz : (⟨l.toArray⟩ : ByteArray).size ≤ 9223372036854775807 := by simp [ByteArray.size]; omega
    rw [e2]
    clear e2
    unfold strV
    go_enter Tryd.func32, Tryd.ntmps32
    go_wp2_with (first
      | (go_at_call 46; refine (Tryd.strings_TrimSuffix _ _ _ hsz).mono ?_; rintro e w1 ⟨rfl, hw⟩; rw [hw])
      | (go_at_call 45; refine (split_calls 10 (Lib.trimSuffix l [10]) _ hlen hm).mono ?_))
    rintro e w1 ⟨rfl, rfl⟩
    go_wp2
    go_ret
    have hB := Blk.new w 9 (strs (cutL 10 (Lib.trimSuffix l [10])))
    exact ⟨_, rfl, Sl.blk' hB (by rw [strs_len]) (Nat.le_refl _), (Chg.refl _ _).alloc _⟩
end Go.Proofs.YtidceolaemikgaaDoor
