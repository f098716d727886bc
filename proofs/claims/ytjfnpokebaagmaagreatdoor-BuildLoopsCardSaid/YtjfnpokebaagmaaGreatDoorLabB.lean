/- The program's table of names: what its calls do. -/
import Derived.Test.YtjfnpokebaagmaaGreatDoorLabA
namespace Go.Proofs.YtjfnpokebaagmaaGreatDoor
open Go.RowKit Go.Deep Go.Maps
set_option linter.unusedVariables false
attribute [local go_sem] Oper.semAt_some
def defF (l : List (Nm × Int)) : Lit → Option Int
 | .string s => findL l s
 | _ => none
theorem findL_snoc (l : List (Nm × Int)) (s k : Nm) (v : Int) : findL (l ++ [(s, v)]) k = match findL l k with | some x => some x | none => if s = k then some v else none := by
 unfold findL
 rw [List.find?_append]
 cases h : l.find? (fun p => p.1 == k) with
 | some p => simp
 | none =>
  by_cases e : s = k
  · simp [e]
  · simp [e]
open Classical in
theorem defF_put (l : List (Nm × Int)) (s : Nm) (v : Int) (h : findL l s = none) : putF (defF l) (.string s) v = defF (l ++ [(s, v)]) := by
 funext k
 unfold putF
 cases k with
 | string k =>
  show (if Lit.string k = Lit.string s then some v else findL l k) = findL (l ++ [(s, v)]) k
  rw [findL_snoc]
  by_cases e : k = s
  · subst e; simp [h]
  · have : ¬ (s = k) := fun e' => e e'.symm
    rw [if_neg (by simpa using e)]
    cases findL l k <;> simp [this]
 | _ => rw [if_neg (by simp)]; rfl
def useCells (l : List (Nm × Int)) : List Value := l.flatMap fun p => [strV p.1, .int .i64 p.2]
theorem useCells_snoc (l : List (Nm × Int)) (p : Nm × Int) : useCells (l ++ [p]) = useCells l ++ [strV p.1, .int .i64 p.2] := by simp [useCells]
structure PT (w : World) (t m : Nat) (uv : Value) (n : Nat) (defs uses : List (Nm × Int)) : Prop where
 blk : Blk w t 94 [.map (some m), uv]
 map : MapI w 9 m n (defF defs)
 row : w.ownsRow 0 127 2 uv uses.length (useCells uses)
theorem own_chgD {w w' : World} {D : List Nat} {base : Nat} {e : TypeId} {size : Nat} {v : Value} {n : Nat} {xs : List Value} (h : w.ownsRow base e size v n xs) (hc : Chg w w' D) (hD : ∀ g, v.ownBlock = some g → g ∉ D) : w'.ownsRow base e size v n xs := by
 refine ⟨h.1, ?_⟩
 rcases h.2 with hn | ⟨g, cap, cur, rfl, hb, hgg, rest⟩
 · exact .inl hn
 · exact .inr ⟨g, cap, cur, rfl, hb, hc.heap hgg (hD g rfl), rest⟩
theorem own_slice {w : World} {base e size n : Nat} {v : Value} {xs : List Value} (h : w.ownsRow base e size v n xs) : ∃ A c, v = .slice A n c := by
 rcases h.2 with ⟨rfl, h0⟩ | ⟨g, cap, cur, rfl, _⟩
 · exact ⟨none, 0, by rw [h0]⟩
 · exact ⟨_, cap, rfl⟩
def footT (t m : Nat) (uv : Value) : List Nat := [t, m] ++ uv.ownBlock.toList
theorem PT.chg {w w' : World} {t m n : Nat} {uv : Value} {defs uses : List (Nm × Int)} {D : List Nat} (h : PT w t m uv n defs uses) (hc : Chg w w' D) (hD : ∀ k ∈ footT t m uv, k ∉ D) : PT w' t m uv n defs uses where
 blk := h.blk.chg hc (hD t (by simp [footT]))
 map := h.map.chg hc (hD m (by simp [footT]))
 row := own_chgD h.row hc (fun g hg => hD g (by simp [footT, hg]))
theorem PT.ne {w : World} {t m n : Nat} {uv : Value} {defs uses : List (Nm × Int)} (h : PT w t m uv n defs uses) : t ≠ m ∧ uv.ownBlock ≠ some t ∧ uv.ownBlock ≠ some m := by
 obtain ⟨es, c, hm⟩ := h.map.obj
 refine ⟨fun e => ?_, fun e => ?_, fun e => ?_⟩
 · have := h.blk
   unfold Blk at this
   rw [e, hm] at this
   injection this with this
   cases this
 · rcases h.row.2 with ⟨rfl, _⟩ | ⟨g, cap, cur, rfl, _, h2, _⟩
   · simp [Value.ownBlock] at e
   · simp [Value.ownBlock] at e
     subst e
     have := h.blk
     unfold Blk at this
     rw [h2] at this
     injection this with this
     injection this with _ this
     exact absurd this (by decide)
 · rcases h.row.2 with ⟨rfl, _⟩ | ⟨g, cap, cur, rfl, _, h2, _⟩
   · simp [Value.ownBlock] at e
   · simp [Value.ownBlock] at e
     subst e
     rw [h2] at hm
     injection hm with hm
     cases hm
end Go.Proofs.YtjfnpokebaagmaaGreatDoor
