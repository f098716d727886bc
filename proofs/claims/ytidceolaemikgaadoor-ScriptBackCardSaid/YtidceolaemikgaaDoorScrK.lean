/- The program's script.Parse. -/
import Derived.Test.YtidceolaemikgaaDoorScrJ
namespace Go.Proofs.YtidceolaemikgaaDoor
open Go.RowKit Go.Deep Go.Shelf
set_option linter.unusedVariables false
attribute [local go_sem] Oper.semAt_some
/-- Cells of deeds that the call itself has made. -/
def DCells (w : World) : List Value → List DeedL → Prop
  | [], [] => True
  | .bool f :: d :: xs, x :: ds => f = x.1 ∧ Sl w d (Lib.byteCells x.2) ∧ Ty8 w d ∧ DCells w xs ds
  | _, _ => False
theorem DCells.chg {w w' : World} {D : List Nat} (hc : Chg w w' D) (hD : ∀ g ∈ D, ∀ cur, w.heap[g]? ≠ some (.cells cur 5 (0, 0))) : ∀ (xs : List Value) (ds : List DeedL), DCells w xs ds → DCells w' xs ds
  | [], [], _ => trivial
  | [], _ :: _, h => h.elim
  | [.bool _], [], h => h.elim
  | .bool _ :: d :: _, [], h => h.elim
  | .bool f :: d :: xs, x :: ds, ⟨h1, h2, h3, h4⟩ => by
    have hn : ∀ A n c, d = .slice (some A) n c → A.block ∉ D := fun A n c e hm => by
      obtain ⟨cur, hcur⟩ := h3 A n c e
      exact hD _ hm cur hcur
    exact ⟨h1, h2.chg hc hn, h3.chg hc hn, DCells.chg hc hD xs ds h4⟩
theorem DCells.snoc {w : World} {f : Bool} {d : Value} {x : DeedL} (hf : f = x.1) (hs : Sl w d (Lib.byteCells x.2)) (ht : Ty8 w d) : ∀ (xs : List Value) (ds : List DeedL), DCells w xs ds → DCells w (xs ++ [.bool f, d]) (ds ++ [x])
  | [], [], _ => ⟨hf, hs, ht, trivial⟩
  | [], _ :: _, h => h.elim
  | [.bool _], [], h => h.elim
  | .bool _ :: d :: _, [], h => h.elim
  | .bool f :: d :: xs, x :: ds, ⟨h1, h2, h3, h4⟩ => ⟨h1, h2, h3, DCells.snoc hf hs ht xs ds h4⟩
theorem DCells.at_ {w : World} : ∀ (xs : List Value) (ds : List DeedL), DCells w xs ds → ∀ k, k < ds.length → ∃ f d, xs[k * 2]? = some (.bool f) ∧ xs[k * 2 + 1]? = some d ∧ f = (ds.getD k (false, [])).1 ∧ Sl w d (Lib.byteCells (ds.getD k (false, [])).2)
  | [], [], _, k, h => by simp at h
  | [], _ :: _, h, _, _ => h.elim
  | [.bool _], [], h, _, _ => h.elim
  | .bool _ :: d :: _, [], h, _, _ => h.elim
  | .bool f :: d :: xs, x :: ds, ⟨h1, h2, h3, h4⟩, 0, _ => ⟨f, d, rfl, rfl, h1, h2⟩
  | .bool f :: d :: xs, x :: ds, ⟨h1, h2, h3, h4⟩, k + 1, hk => by
    have := DCells.at_ xs ds h4 k (by simpa using hk)
    simpa [Nat.add_mul] using this
/-- A slice of deeds reads as a list. -/
def DSl (w : World) (v : Value) (ds : List DeedL) : Prop :=
  ∃ A c, v = .slice A ds.length c ∧ (0 < ds.length → ∃ b off, A = some ⟨b, off, none⟩ ∧ ∀ k, k < ds.length → ∃ f d, w.cell? ⟨b, off + k * 2, none⟩ = some (.bool f) ∧ w.cell? ⟨b, off + k * 2 + 1, none⟩ = some d ∧ f = (ds.getD k (false, [])).1 ∧ Sl w d (Lib.byteCells (ds.getD k (false, [])).2))
theorem DSl.own {w : World} {base : Nat} {v : Value} {xs : List Value} {ds : List DeedL} (h : w.ownsRow base 49 2 v ds.length xs) (hd : DCells w xs ds) : DSl w v ds := by
  have hl := h.1
  rcases h.2 with ⟨rfl, h0⟩ | ⟨g, cap, cur, rfl, h1, h2, h3, h4, h5, h6⟩
  · exact ⟨none, 0, by rw [h0], fun hp => by omega⟩
  · refine ⟨_, cap, rfl, fun _ => ⟨g, 0, rfl, fun k hk => ?_⟩⟩
    obtain ⟨f, d, e1, e2, e3, e4⟩ := hd.at_ xs ds k hk
    have c1 := h.cells (g := g) rfl _ _ e1
    have c2 := h.cells (g := g) rfl _ _ e2
    rw [add_plain] at c1 c2
    exact ⟨f, d, c1, by rwa [Nat.add_assoc], e3, e4⟩
theorem DSl.nil (w : World) : DSl w (.slice none 0 0) [] := ⟨none, 0, rfl, fun h => absurd h (by decide)⟩
def ParseP (r : List DeedL × Nat × Nat) (w : World) (e : Ending) (w' : World) : Prop :=
  ∃ v, e = .returned (.tuple #[v, .int .i64 r.2.1, .int .i64 r.2.2]) ∧ DSl w' v r.1 ∧ Chg w w' []
theorem info_deed : (Tryd.prog.info? 49).map (fun i => (i.zero, i.size, i.bytes)) = some (some (.agg #[.bool false, .slice none 0 0]), 2, 32) := by kernel_rfl
theorem linesL_total (l : List UInt8) : (linesL l).length ≤ l.length + 1 ∧ ∀ x ∈ linesL l, x.length ≤ l.length := by
  unfold linesL
  split
  · simp
  · have h := cutL_total 10 (trimN l)
    have ht : (trimN l).length ≤ l.length := by
      rw [← trimN_eq]; unfold Lib.trimSuffix; split
      · rw [List.length_take]; omega
      · exact Nat.le_refl _
    exact ⟨by omega, fun x hx => by have := h.2 x hx; omega⟩
theorem wordsL_small (l : List UInt8) : ∀ x ∈ wordsL l, x.length ≤ l.length ∧ x ≠ [] := by
  intro x hx
  unfold wordsL at hx
  rw [List.mem_filter] at hx
  exact ⟨(cutL_total 32 l).2 x hx.1, by simpa using hx.2⟩
end Go.Proofs.YtidceolaemikgaaDoor
