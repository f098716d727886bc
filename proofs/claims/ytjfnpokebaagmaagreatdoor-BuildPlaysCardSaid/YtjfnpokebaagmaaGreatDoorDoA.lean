/- BuildPlays: a builder and the document's, side by side. -/
import Derived.Test.YtjfnpokebaagmaaGreatDoorRbF
import Derived.Test.YtjfnpokebaagmaaGreatDoorRbH
namespace Go.Proofs.YtjfnpokebaagmaaGreatDoor
open Go.RowKit Go.Deep Go.Maps
set_option linter.unusedVariables false
attribute [local go_sem] Oper.semAt_some
/-- Both builders, and the flag. -/
def ST (w : World) (tb b x : Nat) (p r : BM) (F : List Nat) : Prop :=
  ∃ FP FR, PB w b p FP ∧ RB w x r FR ∧ Blk w tb 39 [.pointer (some ⟨b, 0, none⟩), .pointer (some ⟨x, 0, none⟩), .bool true] ∧ F = [tb] ++ (FP ++ FR) ∧ (∀ k ∈ FP, k ∉ FR) ∧ tb ∉ FP ∧ tb ∉ FR
theorem ST.lt {w : World} {tb b x : Nat} {p r : BM} {F : List Nat} (h : ST w tb b x p r F) : ∀ k ∈ F, k < w.heap.size := by
  obtain ⟨FP, FR, h1, h2, h3, rfl, _⟩ := h
  intro k hk
  simp only [List.mem_append, List.mem_singleton] at hk
  rcases hk with rfl | hk | hk
  · exact h3.lt
  · exact h1.lt k hk
  · exact h2.lt k hk
theorem ST.blk {w : World} {tb b x : Nat} {p r : BM} {F : List Nat} (h : ST w tb b x p r F) : Blk w tb 39 [.pointer (some ⟨b, 0, none⟩), .pointer (some ⟨x, 0, none⟩), .bool true] := by
  obtain ⟨FP, FR, h1, h2, h3, _⟩ := h
  exact h3
theorem ST.chg {w w' : World} {tb b x : Nat} {p r : BM} {F D : List Nat} (h : ST w tb b x p r F) (hc : Chg w w' D) (hD : ∀ k ∈ F, k ∉ D) : ST w' tb b x p r F := by
  obtain ⟨FP, FR, h1, h2, h3, rfl, h4, h5, h6⟩ := h
  exact ⟨FP, FR, h1.chg hc (fun k hk => hD k (by simp [hk])), h2.chg hc (fun k hk => hD k (by simp [hk])), h3.chg hc (hD tb (by simp)), rfl, h4, h5, h6⟩
theorem ST.tbF {w : World} {tb b x : Nat} {p r : BM} {F : List Nat} (h : ST w tb b x p r F) : tb ∈ F := by
  obtain ⟨FP, FR, h1, h2, h3, rfl, _⟩ := h
  simp
/-- What comes of a call that leaves F but for new blocks. -/
def After (w w' : World) (tb b x : Nat) (p r : BM) (F : List Nat) : Prop := Chg w w' F ∧ ∃ F', Sub F' F w ∧ ST w' tb b x p r F'
theorem ST.callP {w : World} {tb b x : Nat} {p r : BM} {F : List Nat} (h : ST w tb b x p r F) :
    ∃ FP, PB w b p FP ∧ ∀ (q : Int × BM) (e : Ending) (w' : World), GoP q b FP w e w' → e = .returned (.int .i64 q.1) ∧ After w w' tb b x q.2 r F := by
  obtain ⟨FP, FR, h1, h2, h3, rfl, h4, h5, h6⟩ := h
  refine ⟨FP, h1, ?_⟩
  rintro q e w' ⟨rfl, hc, FP', hs, hp⟩
  have hn : ∀ k ∈ FP', k ∈ FP ∨ w.heap.size ≤ k := hs
  refine ⟨rfl, hc.more (fun k hk => .inl (by simp [hk])), [tb] ++ (FP' ++ FR), fun k hk => ?_, FP', FR, hp, h2.chg hc (fun k hk hm => h4 k hm hk), h3.chg hc h5, rfl, fun k hk hm => ?_, fun hm => ?_, h6⟩
  · simp only [List.mem_append, List.mem_singleton] at hk ⊢
    rcases hk with hk | hk | hk
    · exact .inl (.inl hk)
    · rcases hn k hk with h | h
      · exact .inl (.inr (.inl h))
      · exact .inr h
    · exact .inl (.inr (.inr hk))
  · rcases hn k hk with h | h
    · exact h4 k h hm
    · have := h2.lt k hm; omega
  · rcases hn tb hm with h | h
    · exact h5 h
    · have := h3.lt; omega
theorem ST.callR {w : World} {tb b x : Nat} {p r : BM} {F : List Nat} (h : ST w tb b x p r F) :
    ∃ FR, RB w x r FR ∧ ∀ (q : Int × BM) (e : Ending) (w' : World), GoR q x FR w e w' → e = .returned (.int .i64 q.1) ∧ After w w' tb b x p q.2 F := by
  obtain ⟨FP, FR, h1, h2, h3, rfl, h4, h5, h6⟩ := h
  refine ⟨FR, h2, ?_⟩
  rintro q e w' ⟨rfl, hc, FR', hs, hp⟩
  have hn : ∀ k ∈ FR', k ∈ FR ∨ w.heap.size ≤ k := hs
  refine ⟨rfl, hc.more (fun k hk => .inl (by simp [hk])), [tb] ++ (FP ++ FR'), fun k hk => ?_, FP, FR', h1.chg hc (fun k hk hm => h4 k hk hm), hp, h3.chg hc h6, rfl, fun k hk hm => ?_, h5, fun hm => ?_⟩
  · simp only [List.mem_append, List.mem_singleton] at hk ⊢
    rcases hk with hk | hk | hk
    · exact .inl (.inl hk)
    · exact .inl (.inr (.inl hk))
    · rcases hn k hk with h | h
      · exact .inl (.inr (.inr h))
      · exact .inr h
  · rcases hn k hm with h | h
    · exact h4 k hk h
    · have := h1.lt k hk; omega
  · rcases hn tb hm with h | h
    · exact h6 h
    · have := h3.lt; omega
theorem After.trans {w w' w'' : World} {tb b x : Nat} {p r p' r' : BM} {F : List Nat} (h : After w w' tb b x p r F) (h' : ∀ F', ST w' tb b x p r F' → After w' w'' tb b x p' r' F') : After w w'' tb b x p' r' F := by
  obtain ⟨hc, F', hs, hst⟩ := h
  obtain ⟨hc2, F2, hs2, hst2⟩ := h' F' hst
  refine ⟨hc.trans hc2 (fun k hk => hs k hk), F2, fun k hk => ?_, hst2⟩
  rcases hs2 k hk with h | h
  · exact hs k h
  · exact .inr (Nat.le_trans hc.size h)
theorem After.refl {w : World} {tb b x : Nat} {p r : BM} {F : List Nat} (h : ST w tb b x p r F) : After w w tb b x p r F := ⟨Chg.refl _ _, F, Sub.refl _ _, h⟩
theorem After.alloc {w w' : World} {tb b x : Nat} {p r : BM} {F : List Nat} (h : After w w' tb b x p r F) (o : Obj) : After w (w'.alloc o) tb b x p r F := by
  obtain ⟨hc, F', hs, hst⟩ := h
  exact ⟨hc.alloc o, F', hs, hst.chg ((Chg.refl _ []).alloc o) (by simp)⟩
theorem After.drew {w w' : World} {tb b x : Nat} {p r : BM} {F : List Nat} (h : After w w' tb b x p r F) : After w w'.drew tb b x p r F := by
  obtain ⟨hc, F', hs, hst⟩ := h
  exact ⟨hc.drew, F', hs, hst.chg (Chg.refl _ []).drew (by simp)⟩
theorem After.cell {w w' : World} {tb b x : Nat} {p r : BM} {F : List Nat} (h : After w w' tb b x p r F) {a : Addr} {v : Value} (hc : w.cell? a = some v) (hn : a.block ∉ F) : w'.cell? a = some v := h.1.cell hc hn
theorem After.b0 {w w' : World} {tb b x : Nat} {p r : BM} {F : List Nat} (h : After w w' tb b x p r F) : w'.cell? ⟨tb, 0, none⟩ = some (.pointer (some ⟨b, 0, none⟩)) := by
  obtain ⟨_, F', _, hst⟩ := h
  exact hst.blk.cell' (i := 0) rfl
theorem After.b1 {w w' : World} {tb b x : Nat} {p r : BM} {F : List Nat} (h : After w w' tb b x p r F) : w'.cell? ⟨tb, 1, none⟩ = some (.pointer (some ⟨x, 0, none⟩)) := by
  obtain ⟨_, F', _, hst⟩ := h
  exact hst.blk.cell' (i := 1) rfl
theorem After.b2 {w w' : World} {tb b x : Nat} {p r : BM} {F : List Nat} (h : After w w' tb b x p r F) : w'.cell? ⟨tb, 2, none⟩ = some (.bool true) := by
  obtain ⟨_, F', _, hst⟩ := h
  exact hst.blk.cell' (i := 2) rfl
theorem ST.fine {w : World} {tb b x : Nat} {p r : BM} {F : List Nat} (h : ST w tb b x p r F) : After w (w.setCell ⟨tb, 2, none⟩ (.bool true)) tb b x p r F := by
  have hb := h.blk
  have hbs := hb.set_ 2 (.bool true)
  obtain ⟨FP, FR, h1, h2, h3, rfl, h4, h5, h6⟩ := h
  have hc : Chg w (w.setCell ⟨tb, 2, none⟩ (.bool true)) [tb] := (Chg.refl w _).setCell _ _ (.inl (by simp))
  exact ⟨hc.more (fun k hk => .inl (by simp at hk; simp [hk])), _, Sub.refl _ _, FP, FR, h1.chg hc (fun k hk hm => by simp at hm; subst hm; exact h5 hk), h2.chg hc (fun k hk hm => by simp at hm; subst hm; exact h6 hk), hbs, rfl, h4, h5, h6⟩
theorem After.fine {w w' : World} {tb b x : Nat} {p r : BM} {F : List Nat} (h : After w w' tb b x p r F) : After w (w'.setCell ⟨tb, 2, none⟩ (.bool true)) tb b x p r F := h.trans fun F' hst => hst.fine
theorem After.fz {w w' : World} {tb b x : Nat} {p r : BM} {F : List Nat} (h : After w w' tb b x p r F) (i : Nat) : w'.frozen? ⟨tb, i, none⟩ = false := by
  obtain ⟨_, F', _, hst⟩ := h
  exact hst.blk.frozen i
/-- In a region: how far both calls are. -/
def WDL (i7 i14 : Nat) (w0 : World) (tb b x : Nat) (p q : BM) (F : List Nat) (L : Nat → Bool) (w : World) : Prop := After w0 w tb b x (bif L i7 then q else p) (bif L i14 then q else p) F
theorem WDL.keep {i7 i14 : Nat} {w0 : World} {tb b x : Nat} {p q : BM} {F : List Nat} {L : Nat → Bool} {w : World} {i : Nat} (h : WDL i7 i14 w0 tb b x p q F L w) (h1 : i7 ≠ i) (h2 : i14 ≠ i) : WDL i7 i14 w0 tb b x p q F (fun j => if j = i then true else L j) w := by
  unfold WDL
  simp only [if_neg h1, if_neg h2]
  exact h
theorem WDL.ext {i7 i14 : Nat} {w0 : World} {tb b x : Nat} {p q : BM} {F : List Nat} {L L' : Nat → Bool} {w : World} (h : WDL i7 i14 w0 tb b x p q F L w) (h1 : L i7 = L' i7) (h2 : L i14 = L' i14) : WDL i7 i14 w0 tb b x p q F L' w := by
  unfold WDL at h ⊢
  rw [← h1, ← h2]
  exact h
theorem WDL.prog {i7 i14 : Nat} {w0 : World} {tb b x : Nat} {p : BM} {F : List Nat} {L : Nat → Bool} {w : World} {q : Int × BM} (h : WDL i7 i14 w0 tb b x p q.2 F L w) (hL : L i7 = false) (hne : i14 ≠ i7) :
    ∃ FP, PB w b p FP ∧ ∀ (e : Ending) (w' : World), GoP q b FP w e w' → e = .returned (.int .i64 q.1) ∧ WDL i7 i14 w0 tb b x p q.2 F (fun j => if j = i7 then true else L j) w' := by
  unfold WDL at h
  rw [hL] at h
  obtain ⟨hc, F', hs, hst⟩ := h
  obtain ⟨FP, hp, hgo⟩ := hst.callP
  refine ⟨FP, hp, fun e w' hg => ?_⟩
  obtain ⟨rfl, ha⟩ := hgo q e w' hg
  refine ⟨rfl, ?_⟩
  unfold WDL
  simp only [if_true, if_neg hne, cond_true]
  obtain ⟨hc2, F2, hs2, hst2⟩ := ha
  refine ⟨hc.trans hc2 (fun k hk => hs k hk), F2, fun k hk => ?_, hst2⟩
  rcases hs2 k hk with h | h
  · exact hs k h
  · exact .inr (Nat.le_trans hc.size h)
theorem WDL.ref {i7 i14 : Nat} {w0 : World} {tb b x : Nat} {p : BM} {F : List Nat} {L : Nat → Bool} {w : World} {q : Int × BM} (h : WDL i7 i14 w0 tb b x p q.2 F L w) (hL : L i14 = false) (hne : i7 ≠ i14) :
    ∃ FR, RB w x p FR ∧ ∀ (e : Ending) (w' : World), GoR q x FR w e w' → e = .returned (.int .i64 q.1) ∧ WDL i7 i14 w0 tb b x p q.2 F (fun j => if j = i14 then true else L j) w' := by
  unfold WDL at h
  rw [hL] at h
  obtain ⟨hc, F', hs, hst⟩ := h
  obtain ⟨FP, hp, hgo⟩ := hst.callR
  refine ⟨FP, hp, fun e w' hg => ?_⟩
  obtain ⟨rfl, ha⟩ := hgo q e w' hg
  refine ⟨rfl, ?_⟩
  unfold WDL
  simp only [if_true, if_neg hne, cond_true]
  obtain ⟨hc2, F2, hs2, hst2⟩ := ha
  refine ⟨hc.trans hc2 (fun k hk => hs k hk), F2, fun k hk => ?_, hst2⟩
  rcases hs2 k hk with h | h
  · exact hs k h
  · exact .inr (Nat.le_trans hc.size h)
/-- Sizes: so many calls bring so much. -/
structure Siz (bm : BM) (at_ k : Nat) : Prop where
  code : bm.code.length + k ≤ 4 * at_
  uses : bm.uses.length + k ≤ 4 * at_
  defs : bm.defs.length ≤ at_
  fine : Fine bm
theorem Siz.next {bm : BM} {a k : Nat} (h : Siz bm a k) : Siz bm (a + 1) k := ⟨by have := h.code; omega, by have := h.uses; omega, by have := h.defs; omega, h.fine⟩
theorem Fine.use {bm : BM} {c : List Ins5} {s : Nm} {p : Int} (h : Fine bm) (h0 : 0 ≤ p) (h1 : p ≤ 1000000) (hs : s.length ≤ 1000000) : Fine { bm with uses := bm.uses ++ [(s, p)], code := c } := by
  refine ⟨h.1, fun q hq => ?_⟩
  rcases List.mem_append.1 hq with hq | hq
  · exact h.2 q hq
  · simp at hq; subst hq; exact ⟨⟨h0, h1⟩, hs⟩
theorem Fine.def_ {bm : BM} {c : List Ins5} {s : Nm} {p : Int} (h : Fine bm) (h0 : 0 ≤ p) (h1 : p ≤ 1000000) : Fine { bm with defs := bm.defs ++ [(s, p)], code := c } := by
  refine ⟨fun q hq => ?_, h.2⟩
  rcases List.mem_append.1 hq with hq | hq
  · exact h.1 q hq
  · simp at hq; subst hq; exact ⟨h0, h1⟩
theorem Siz.ins {bm : BM} {a k : Nat} (h : Siz bm a k) (i : Ins5) : Siz (insM bm i).2 (a + 1) k := by
  unfold insM
  split
  · exact h.next
  · exact ⟨by have := h.code; simp; omega, by have := h.uses; show bm.uses.length + k ≤ _; omega, by have := h.defs; show bm.defs.length ≤ _; omega, h.fine⟩
theorem Siz.label {bm : BM} {a k : Nat} (h : Siz bm a k) (s : Nm) (ha : a ≤ 1000) : Siz (labelM bm s).2 (a + 1) k := by
  unfold labelM defM
  have h1 := h.code
  have h2 := h.uses
  have h3 := h.defs
  split
  · exact h.next
  · split
    · exact h.next
    · exact ⟨by show bm.code.length + k ≤ _; omega, by show bm.uses.length + k ≤ _; omega, by simp; omega, Fine.def_ (c := bm.code) h.fine (by omega) (by omega)⟩
theorem Siz.go {bm : BM} {a k : Nat} (h : Siz bm a k) (op d a' : Int) (s : Nm) (ha : a ≤ 1000) (hs : s.length ≤ 1000000) : Siz (goM bm op d a' s).2 (a + 1) k := by
  unfold goM
  have h1 := h.code
  have h2 := h.uses
  have h3 := h.defs
  split
  · exact h.next
  · split
    · exact h.next
    · split
      · exact h.next
      · exact ⟨by simp; omega, by simp; omega, by show bm.defs.length ≤ _; omega, Fine.use h.fine (by omega) (by omega) hs⟩
theorem Siz.set {bm : BM} {a k : Nat} (h : Siz bm a k) (d n : Int) : Siz (setM bm d n).2 (a + 1) k := by
  unfold setM
  have h1 := h.code
  have h2 := h.uses
  have h3 := h.defs
  split
  · exact h.next
  · have : (setCode d n).length ≤ 2 := by unfold setCode; split <;> simp
    exact ⟨by simp; omega, by show bm.uses.length + k ≤ _; omega, by show bm.defs.length ≤ _; omega, h.fine⟩
theorem Siz.opn {bm : BM} {a k : Nat} (h : Siz bm a k) (c l n : Int) (s : Nm) (ha : a ≤ 1000) (h0 : (openM bm c l n s).1 = 0) : Siz (openM bm c l n s).2 (a + 1) (k + 2) := by
  unfold openM at h0 ⊢
  have h1 := h.code
  have h2 := h.uses
  have h3 := h.defs
  by_cases q1 : loopB c l n = false
  · rw [if_pos q1] at h0; simp at h0
  · rw [if_neg q1] at h0 ⊢
    by_cases q2 : isL s = false
    · rw [if_pos q2] at h0; simp at h0
    · rw [if_neg q2] at h0 ⊢
      by_cases q3 : (findL bm.defs s).isSome = true
      · rw [if_pos q3] at h0; simp at h0
      · rw [if_neg q3]
        exact ⟨by simp; omega, by show bm.uses.length + (k + 2) ≤ _; omega, by simp; omega, Fine.def_ h.fine (by omega) (by omega)⟩
theorem Siz.cls {bm : BM} {a k : Nat} (h : Siz bm a (k + 2)) (c l : Int) (s : Nm) (ha : a ≤ 1000) (hs : s.length ≤ 1000000) : Siz (closeM bm c l s) a k := by
  have h1 := h.code
  have h2 := h.uses
  have h3 := h.defs
  exact ⟨by simp [closeM]; omega, by simp [closeM]; omega, h3, Fine.use h.fine (by omega) (by omega) hs⟩
end Go.Proofs.YtjfnpokebaagmaaGreatDoor
