/- BuildPlays: acts in memory. -/
import Derived.Test.YtjfnpokebaagmaaGreatDoorDoA
import Derived.Test.YtjfnpokebaagmaaGreatDoorRegH
import Derived.Deep.Cut
namespace Go.Proofs.YtjfnpokebaagmaaGreatDoor
open Go.RowKit Go.Deep Go.Maps
set_option linter.unusedVariables false
attribute [local go_sem] Oper.semAt_some
theorem WDL.fine {i7 i14 : Nat} {w0 : World} {tb b x : Nat} {p q : BM} {F : List Nat} {L : Nat → Bool} {w : World} {i : Nat} (h : WDL i7 i14 w0 tb b x p q F L w) (h1 : i7 ≠ i) (h2 : i14 ≠ i) : WDL i7 i14 w0 tb b x p q F (fun j => if j = i then true else L j) (w.setCell ⟨tb, 2, none⟩ (.bool true)) := by
  unfold WDL
  simp only [if_neg h1, if_neg h2]
  exact After.fine h
structure ActL where
  kind : Int
  i : Ins5
  name : Nm
  c : Int
  l : Int
  n : Int
def actCells (a : ActL) : List Value := [.int .i64 a.kind, .int .i64 a.i.op, .int .i64 a.i.d, .int .i64 a.i.a, .int .i64 a.i.b, .int .i64 a.i.n, strV a.name, .int .i64 a.c, .int .i64 a.l, .int .i32 a.n]
/-- A slice of acts reads as a list. -/
def ASl (w : World) (A : Option Addr) (l : List ActL) : Prop := 0 < l.length → ∃ lb off, A = some ⟨lb, off, none⟩ ∧ ∀ (k : Nat) (a : ActL), l[k]? = some a → ∀ (j : Nat) (v : Value), (actCells a)[j]? = some v → w.cell? ⟨lb, off + k * 10 + j, none⟩ = some v
theorem ASl.chg {w w' : World} {A : Option Addr} {l : List ActL} {D : List Nat} (h : ASl w A l) (hc : Chg w w' D) (hD : ∀ a, A = some a → a.block ∉ D) : ASl w' A l := fun h0 => by
  obtain ⟨lb, off, rfl, hx⟩ := h h0
  exact ⟨lb, off, rfl, fun k a hk j v hv => hc.cell (hx k a hk j v hv) (show lb ∉ D from hD ⟨lb, off, none⟩ rfl)⟩
def ActOk (a : ActL) : Prop := (-2147483648 ≤ a.n ∧ a.n ≤ 2147483647) ∧ a.name.length ≤ 100
/-- The place that a box holds. -/
def atOf (w : World) (k : Nat) : Nat := match w.cell? ⟨k, 0, none⟩ with
  | some (.int _ n) => n.toNat
  | _ => 0
theorem atOf_eq {w : World} {k : Nat} {t : TypeId} {n : Nat} (h : Blk w k t [.int .i64 n]) : atOf w k = n := by
  unfold atOf
  rw [h.cell' (i := 0) rfl]
  simp
/-- The state of does at the head of its loop. -/
structure LI (w : World) (tb b x : Nat) (sv : Value) (j0 k n dep : Nat) (F : List Nat) (wr : World) (j : Nat) (bj : BM) : Prop where
  h1 : j0 ≤ j
  h2 : j ≤ n
  chg : Chg w wr F
  st : ∃ F', (∀ k ∈ F', k ∈ F ∨ w.heap.size + 4 ≤ k) ∧ ST wr tb b x bj bj F'
  siz : Siz bj j k
  b4 : Blk wr w.heap.size 28 [.pointer (some ⟨tb, 0, none⟩)]
  b5 : Blk wr (w.heap.size + 1) 22 [sv]
  b6 : Blk wr (w.heap.size + 2) 3 [.int .i64 j]
  b7 : Blk wr (w.heap.size + 3) 3 [.int .i64 dep]
theorem LI.b2 {w : World} {tb b x : Nat} {sv : Value} {j0 k n dep : Nat} {F : List Nat} {wr : World} {j : Nat} {bj : BM} (h : LI w tb b x sv j0 k n dep F wr j bj) : wr.cell? ⟨tb, 2, none⟩ = some (.bool true) := by
  obtain ⟨F', _, hst⟩ := h.st
  exact hst.blk.cell' (i := 2) rfl
/-- The state of does within a round: the act lies in block ka. -/
structure MID (w : World) (tb b x : Nat) (sv : Value) (j0 k n dep : Nat) (F : List Nat) (w5 : World) (ka : Nat) (cs : List Value) (j : Nat) (bj : BM) (F5 : List Nat) : Prop where
  h1 : j0 ≤ j
  h2 : j < n
  chg : Chg w w5 F
  hF : ∀ k ∈ F5, k ∈ F ∨ w.heap.size + 4 ≤ k
  hn : ∀ k ∈ F5, (k < w.heap.size ∨ w.heap.size + 4 ≤ k) ∧ k < ka
  hsz : w.heap.size + 4 ≤ ka ∧ ka < w5.heap.size
  st : ST w5 tb b x bj bj F5
  siz : Siz bj j k
  ba : Blk w5 ka 27 cs
  b4 : Blk w5 w.heap.size 28 [.pointer (some ⟨tb, 0, none⟩)]
  b5 : Blk w5 (w.heap.size + 1) 22 [sv]
  b6 : Blk w5 (w.heap.size + 2) 3 [.int .i64 ((j + 1 : Nat) : Int)]
  b7 : Blk w5 (w.heap.size + 3) 3 [.int .i64 dep]
theorem LI.mid {w : World} {tb b x : Nat} {sv : Value} {j0 k n dep : Nat} {F : List Nat} {wr : World} {j : Nat} {bj : BM} (h : LI w tb b x sv j0 k n dep F wr j bj) (hlt : j < n) (hF : ∀ k ∈ F, k < w.heap.size) (cs : List Value) :
    ∃ F5, MID w tb b x sv j0 k n dep F ((wr.setCell ⟨w.heap.size + 2, 0, none⟩ (.int .i64 ((j + 1 : Nat) : Int))).alloc (.cells cs.toArray 27)) wr.heap.size cs j bj F5 := by
  obtain ⟨F5, hs, hst⟩ := h.st
  have h7 := h.b7.lt
  have hn : ∀ k ∈ F5, (k < w.heap.size ∨ w.heap.size + 4 ≤ k) ∧ k < wr.heap.size := fun k hk => ⟨(hs k hk).imp (hF k) id, hst.lt k hk⟩
  have hc : Chg wr ((wr.setCell ⟨w.heap.size + 2, 0, none⟩ (.int .i64 ((j + 1 : Nat) : Int))).alloc (.cells cs.toArray 27)) [w.heap.size + 2] := ((Chg.refl wr _).setCell _ _ (.inl (by simp))).alloc _
  refine ⟨F5, h.h1, hlt, h.chg.trans hc (fun k hk => .inr (by simp at hk; omega)), hs, hn, ⟨by omega, ?_⟩, hst.chg hc (fun k hk hm => by have := hn k hk; simp at hm; omega), h.siz, ?_, h.b4.chg hc (by simp), h.b5.chg hc (by simp), ?_, h.b7.chg hc (by simp)⟩
  · simp
  · have hb := Blk.new (wr.setCell ⟨w.heap.size + 2, 0, none⟩ (.int .i64 ((j + 1 : Nat) : Int))) 27 cs
    rw [show (wr.setCell ⟨w.heap.size + 2, 0, none⟩ (.int .i64 ((j + 1 : Nat) : Int))).heap.size = wr.heap.size by simp] at hb
    exact hb
  · exact (h.b6.set_ 0 _).alloc _
theorem MID.next {w : World} {tb b x : Nat} {sv : Value} {j0 k n dep : Nat} {F : List Nat} {w5 : World} {ka : Nat} {cs : List Value} {j : Nat} {bj : BM} {F5 : List Nat} (h : MID w tb b x sv j0 k n dep F w5 ka cs j bj F5) {w6 : World} {q : BM} (ha : After w5 w6 tb b x q q F5) (hs : Siz q (j + 1) k) : LI w tb b x sv j0 k n dep F w6 (j + 1) q := by
  obtain ⟨hc, F6, hs6, hst⟩ := ha
  have h1 := h.hsz
  have h2 := h.chg.size
  refine ⟨by have := h.h1; omega, h.h2, h.chg.trans hc (fun k hk => (h.hF k hk).imp id (fun h => by omega)), ⟨F6, fun k hk => ?_, hst⟩, hs, h.b4.chg hc (fun hm => by have := h.hn _ hm; omega), h.b5.chg hc (fun hm => by have := h.hn _ hm; omega), h.b6.chg hc (fun hm => by have := h.hn _ hm; omega), h.b7.chg hc (fun hm => by have := h.hn _ hm; omega)⟩
  rcases hs6 k hk with h' | h'
  · exact h.hF k h'
  · exact .inr (by omega)
end Go.Proofs.YtjfnpokebaagmaaGreatDoor
