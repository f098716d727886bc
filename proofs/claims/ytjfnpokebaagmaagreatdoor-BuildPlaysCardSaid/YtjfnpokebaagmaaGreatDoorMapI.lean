/- Maps of one's own whose elements are ints, as functions of keys. -/
import Derived.Test.YtjfnpokebaagmaaGreatDoorMem
import Derived.Maps.OwnSet
import Derived.Maps.Views
import Derived.Maps.Own
namespace Go.Proofs.YtjfnpokebaagmaaGreatDoor
open Go.RowKit Go.Maps
set_option linter.unusedVariables false
/-- Block m is a map that tells what f does. -/
def MapI (w : World) (kty : TypeId) (m n : Nat) (f : Lit → Option Int) : Prop :=
  ∃ D : DataW Unit, w.ownsMap Tryz.prog kty (plainElem Tryz.prog 3) m n D ∧ IsMap D ∧ ∀ k, WideAt.IsKeyLit k → Maps.has D k = (f k).isSome ∧ D.atKey k (.lit (.int .i64 0)) = .lit (.int .i64 ((f k).getD 0))
theorem MapI.made (w : World) (kty : TypeId) : MapI (w.alloc (.map #[] 0)) kty w.heap.size 0 fun _ => none :=
  ⟨.map [], World.ownsMap_made _ _ _ _, isMap_empty, fun k _ => ⟨rfl, rfl⟩⟩
theorem MapI.lt {w : World} {kty : TypeId} {m n : Nat} {f : Lit → Option Int} (h : MapI w kty m n f) : m < w.heap.size := by
  obtain ⟨D, ⟨es, clock, hb, _⟩, _⟩ := h
  exact lt_of_heap hb
theorem MapI.obj {w : World} {kty : TypeId} {m n : Nat} {f : Lit → Option Int} (h : MapI w kty m n f) : ∃ es c, w.heap[m]? = some (.map es c) := by
  obtain ⟨D, ⟨es, clock, hb, _⟩, _⟩ := h
  exact ⟨es, clock, hb⟩
theorem MapI.chg {w w' : World} {kty : TypeId} {m n : Nat} {f : Lit → Option Int} {L : List Nat} (h : MapI w kty m n f) (hc : Chg w w' L) (hm : m ∉ L) : MapI w' kty m n f := by
  obtain ⟨D, ⟨es, clock, hb, hr⟩, hx⟩ := h
  exact ⟨D, ⟨es, clock, hc.heap hb hm, hr⟩, hx⟩
theorem MapI.alloc {w : World} {kty : TypeId} {m n : Nat} {f : Lit → Option Int} (h : MapI w kty m n f) (o : Obj) : MapI (w.alloc o) kty m n f := h.chg ((Chg.refl w []).alloc o) (by simp)
theorem zero_int (w : World) : (zeroValue 3).run Tryz.prog w = .ok (.int .i64 0) w := by kernel_rfl
open Classical in
noncomputable def putF (f : Lit → Option Int) (kl : Lit) (v : Int) : Lit → Option Int := fun k => if k = kl then some v else f k
theorem wpList_lookI {w : World} {ops : Array Oper} {rest : List Oper} {o : Oper} {a : Act} {Q : Exit → Act → World → Prop}
    (hg : o.guard = none) (mo x : Operand) (t : TypeId) (hop : o.op = Op.lookup t mo x true)
    (kty : TypeId) (K : Keyed Tryz.prog kty) (ht : Tryz.prog.underlying t = some (.map kty 3)) (m n : Nat) (f : Lit → Option Int)
    (hm : a.eval mo = .map (some m)) (hM : MapI w kty m n f) (key : Value) (kl : Lit) (hx : a.eval x = key) (hkey : keyOf Tryz.prog kty key = some kl) (hk : WideAt.IsKeyLit kl)
    (hK : wpList Tryz.prog ops Q rest (a.put o.dst (.tuple #[.int .i64 ((f kl).getD 0), .bool (f kl).isSome])) w) :
    wpList Tryz.prog ops Q (o :: rest) a w := by
  obtain ⟨D, hown, hD, hf⟩ := hM
  refine wpList_lookup_own_ok_int w hg mo x t hop kty 3 .i64 K ht Tryz.underlying3 (zero_int w) m n D hm hown key kl hx hkey ?_
  intro c hc _
  obtain ⟨h1, h2⟩ := hf kl hk
  rw [h2] at hc
  injection hc with hc
  injection hc with _ hc
  rw [h1, ← hc]
  exact hK
theorem wpList_putI {w : World} {ops : Array Oper} {rest : List Oper} {o : Oper} {a : Act} {Q : Exit → Act → World → Prop}
    (hg : o.guard = none) (mo x v : Operand) (t : TypeId) (hop : o.op = Op.mapUpdate t mo x v)
    (kty : TypeId) (K : Keyed Tryz.prog kty) (ht : Tryz.prog.underlying t = some (.map kty 3)) (m n : Nat) (f : Lit → Option Int)
    (hm : a.eval mo = .map (some m)) (hM : MapI w kty m n f) (hn : n < maxLen) (key : Value) (kl : Lit) (hx : a.eval x = key) (hkey : keyOf Tryz.prog kty key = some kl) (hk : WideAt.IsKeyLit kl) (z : Int)
    (hv : a.eval v = .int .i64 z) (hz : (Lit.int .i64 z).wf = true)
    (hK : ∀ w', MapI w' kty m (n + 1) (putF f kl z) → Chg w w' [m] → wpList Tryz.prog ops Q rest (a.put o.dst undef) w') :
    wpList Tryz.prog ops Q (o :: rest) a w := by
  obtain ⟨D, hown, hD, hf⟩ := hM
  refine wpList_mapUpdate_own w hg mo x v t hop kty 3 K ht (plainElem Tryz.prog 3) m n D hm hown hn key (.int .i64 z) kl hx hv hkey (.lit (.int .i64 z)) [] (plainElem_int Tryz.underlying3 hz) ?_
  intro w' h1 h2
  refine hK w' ⟨_, h1, hD.put kl _, fun k hkk => ?_⟩ (Chg.of_grown h2 (fun k hk => .inl (by simp at hk; simp [hk])))
  unfold putF
  by_cases e : k = kl
  · subst e
    rw [if_pos rfl, has_put_same hD hk, atKey_put_same hD hk]
    exact ⟨rfl, rfl⟩
  · rw [if_neg e, has_put_other e, atKey_put_other e]
    exact hf k hkk
end Go.Proofs.YtjfnpokebaagmaaGreatDoor
