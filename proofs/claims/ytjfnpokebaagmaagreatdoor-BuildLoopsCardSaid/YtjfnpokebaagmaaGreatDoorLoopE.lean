/- BuildLoops: what its builder comes to. -/
import Derived.Test.YtjfnpokebaagmaaGreatDoorBL4
import Derived.Test.YtjfnpokebaagmaaGreatDoorPbG
import Derived.Test.YtjfnpokebaagmaaGreatDoorPbH
namespace Go.Proofs.YtjfnpokebaagmaaGreatDoor
open Go.RowKit Go.Deep Go.Maps
set_option linter.unusedVariables false
def nOuter : Nm := [111, 117, 116, 101, 114]
def nInner : Nm := [105, 110, 110, 101, 114]
def rawCode (x y : Int) : List Ins5 :=
 [⟨31, 1, 0, 0, 0⟩, ⟨31, 2, 0, 0, x⟩, ⟨31, 3, 0, 0, 0⟩, ⟨31, 4, 0, 0, y⟩, ⟨31, 6, 6, 0, 1⟩, ⟨1, 7, 7, 1, 0⟩, ⟨1, 8, 8, 3, 0⟩, ⟨31, 3, 3, 0, 1⟩, ⟨38, 3, 4, 0, 0⟩, ⟨31, 1, 1, 0, 1⟩, ⟨38, 1, 2, 0, 0⟩, ⟨43, 0, 0, 0, 0⟩]
def bmL (l : List Ins5) (x y : Int) : BM := ⟨l ++ rawCode x y, [(nOuter, (l.length : Int) + 2), (nInner, (l.length : Int) + 4)], [(nInner, (l.length : Int) + 8), (nOuter, (l.length : Int) + 10)]⟩
theorem fin_loops (l : List Ins5) (hl : l.length = 1 ∨ l.length = 2) (x y : Int) : finM (bmL l x y) = ((l ++ loopsCode l.length x y).map encI, [], 0) := by
 match l, hl with
 | [a], _ => rfl
 | [a, b], _ => rfl
theorem setCode_len (d n : Int) : (setCode d n).length = 1 ∨ (setCode d n).length = 2 := by
 unfold setCode
 split
 · exact .inl rfl
 · exact .inr rfl
theorem Fine_bmL (l : List Ins5) (hl : l.length = 1 ∨ l.length = 2) (x y : Int) : Fine (bmL l x y) := by
 unfold Fine bmL
 constructor
 · intro p hp
   simp at hp
   rcases hp with rfl | rfl <;> (simp only []; omega)
 · intro p hp
   simp at hp
   rcases hp with rfl | rfl <;> (simp only [nInner, nOuter, List.length_cons, List.length_nil]; omega)
theorem calls_L (k x y : Int) (hx1 : 1 ≤ x) (hx2 : x ≤ 30) (hy1 : 1 ≤ y) (hy2 : y ≤ 30) :
 ∃ b1 b2 : BM, openM ⟨setCode 5 k, [], []⟩ 1 2 x nOuter = (0, b1) ∧ openM b1 3 4 y nInner = (0, b2) ∧
  closeM (closeM { b2 with code := b2.code ++ [⟨31, 6, 6, 0, 1⟩, ⟨1, 7, 7, 1, 0⟩, ⟨1, 8, 8, 3, 0⟩] } 3 4 nInner) 1 2 nOuter = { bmL (setCode 5 k) x y with code := (bmL (setCode 5 k) x y).code.dropLast } ∧ (b1.code.length ≤ 900 ∧ b1.defs.length ≤ 900 ∧ b2.code.length ≤ 900 ∧ b2.uses.length ≤ 900) := by
 have hl1 : loopB 1 2 x = true := (loopB_iff 1 2 x).2 ⟨by decide, by decide, by decide, by decide, by decide, hx1, by omega⟩
 have hl2 : loopB 3 4 y = true := (loopB_iff 3 4 y).2 ⟨by decide, by decide, by decide, by decide, by decide, hy1, by omega⟩
 refine ⟨⟨setCode 5 k ++ [⟨31, 1, 0, 0, 0⟩, ⟨31, 2, 0, 0, x⟩], [(nOuter, ((setCode 5 k).length : Int) + 2)], []⟩, ⟨(setCode 5 k ++ [⟨31, 1, 0, 0, 0⟩, ⟨31, 2, 0, 0, x⟩]) ++ [⟨31, 3, 0, 0, 0⟩, ⟨31, 4, 0, 0, y⟩], [(nOuter, ((setCode 5 k).length : Int) + 2), (nInner, (((setCode 5 k ++ [⟨31, 1, 0, 0, 0⟩, ⟨31, 2, 0, 0, x⟩] : List Ins5).length : Int)) + 2)], []⟩, ?_, ?_, ?_, ?_⟩
 · unfold openM
   rw [if_neg (by rw [hl1]; decide), if_neg (by decide), if_neg (by simp [findL])]
   rfl
 · unfold openM
   rw [if_neg (by rw [hl2]; decide), if_neg (by decide), if_neg (by simp [findL, nOuter, nInner])]
   rfl
 · rcases setCode_len 5 k with h | h
   · obtain ⟨a, ha⟩ := List.length_eq_one_iff.1 h
     rw [ha]
     rfl
   · match hs : setCode 5 k, h with
     | [a, b], _ => rfl
 · have := setCode_len 5 k
   simp only [List.length_append, List.length_cons, List.length_nil]
   omega
end Go.Proofs.YtjfnpokebaagmaaGreatDoor
