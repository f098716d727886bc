/- Regions by slots, for walks that use the mill of numbers at block b. -/
import Derived.Test.YtkfkoobdmnndcaaGreatSlots2
import Derived.Test.YtkfkoobdmnndcaaGreatPlain
namespace Go.Proofs.YtkfkoobdmnndcaaGreat
open Go.RowKit Go.Deep
set_option linter.unusedVariables false
/-- The blocks of the mill at b, as the world tells them. -/
def dof (w : World) (b : Nat) : List Nat := own b (cellAt w ⟨b, 0, none⟩) (cellAt w ⟨b, 1, none⟩)
section
variable {w w' w'' : World} {b : Nat} {cs : List Wd} {ts : List Value} {vc vt : Value}
theorem Pl.dof (h : Pl w b cs ts vc vt) : dof w b = own b vc vt := by
  unfold Proofs.YtkfkoobdmnndcaaGreat.dof
  rw [cellAt_is (h.blk.cell' (i := 0) rfl), cellAt_is (h.blk.cell' (i := 1) rfl)]
/-- The mill at b holds cells and tables of which R tells. -/
def PlR (w : World) (b : Nat) (R : List Wd → List Value → Prop) : Prop := ∃ cs ts vc vt, R cs ts ∧ Pl w b cs ts vc vt
/-- At most n cells, and tables. -/
def most (n : Nat) (cs : List Wd) (ts : List Value) : Prop := cs.length ≤ n ∧ ts.length ≤ n
theorem PlR.lt {R : List Wd → List Value → Prop} (h : PlR w b R) : ∀ k ∈ Proofs.YtkfkoobdmnndcaaGreat.dof w b, k < w.heap.size := by
  obtain ⟨cs, ts, vc, vt, _, h⟩ := h
  rw [h.dof]; exact h.lt
theorem PlR.mem {R : List Wd → List Value → Prop} (h : PlR w b R) : b ∈ Proofs.YtkfkoobdmnndcaaGreat.dof w b := by unfold Proofs.YtkfkoobdmnndcaaGreat.dof own; simp
/-- A piece of work on the mill at b. -/
structure Turn (w : World) (b : Nat) (w' : World) : Prop where
  chg : Chg w w' (Proofs.YtkfkoobdmnndcaaGreat.dof w b)
  sub : ∀ k ∈ Proofs.YtkfkoobdmnndcaaGreat.dof w' b, k ∈ Proofs.YtkfkoobdmnndcaaGreat.dof w b ∨ w.heap.size ≤ k
theorem Turn.refl (w : World) (b : Nat) : Turn w b w := ⟨Chg.refl _ _, fun k h => .inl h⟩
theorem Turn.trans (h : Turn w b w') (h' : Turn w' b w'') : Turn w b w'' :=
  ⟨h.chg.trans h'.chg h.sub, fun k hk => by
    rcases h'.sub k hk with h1 | h1
    · exact h.sub k h1
    · have := h.chg.size; right; omega⟩
theorem dof_chg {D : List Nat} {R : List Wd → List Value → Prop} (h : PlR w b R) (hc : Chg w w' D) (hb : b ∉ D) : Proofs.YtkfkoobdmnndcaaGreat.dof w' b = Proofs.YtkfkoobdmnndcaaGreat.dof w b := by
  obtain ⟨cs, ts, vc, vt, _, h⟩ := h
  have hb' := h.blk.chg hc hb
  rw [h.dof]
  unfold Proofs.YtkfkoobdmnndcaaGreat.dof
  rw [cellAt_is (hb'.cell' (i := 0) rfl), cellAt_is (hb'.cell' (i := 1) rfl)]
theorem PlR.chg {D : List Nat} {R : List Wd → List Value → Prop} (h : PlR w b R) (hc : Chg w w' D) (hD : ∀ k ∈ Proofs.YtkfkoobdmnndcaaGreat.dof w b, k ∉ D) : PlR w' b R := by
  obtain ⟨cs, ts, vc, vt, hr, h⟩ := h
  exact ⟨cs, ts, vc, vt, hr, h.chg hc (by rw [← h.dof]; exact hD)⟩
theorem PlR.mono {R R' : List Wd → List Value → Prop} (h : PlR w b R) (hR : ∀ cs ts, R cs ts → R' cs ts) : PlR w b R' := by
  obtain ⟨cs, ts, vc, vt, hr, h⟩ := h
  exact ⟨cs, ts, vc, vt, hR _ _ hr, h⟩
theorem Turn.call {R : List Wd → List Value → Prop} (h : PlR w b R) (hc : Chg w w' []) : Turn w b w' :=
  ⟨hc.more (by simp), fun k hk => .inl (by rw [← dof_chg h hc (by simp)]; exact hk)⟩
theorem Turn.to_chg {w0 : World} (h : Turn w b w') (hc : Chg w0 w []) (hb : ∀ k ∈ Proofs.YtkfkoobdmnndcaaGreat.dof w b, w0.heap.size ≤ k) : Chg w0 w' [] := hc.trans h.chg (fun k hk => .inr (hb k hk))
/-- What Cell, Table and Set leave. -/
theorem turn_of {vc' vt' : Value} {cs' : List Wd} {ts' : List Value} (h : Pl w b cs ts vc vt) (h' : Pl w' b cs' ts' vc' vt') (hc : Chg w w' (own b vc vt))
    (h1 : vc'.ownBlock = vc.ownBlock ∨ ∃ g, vc'.ownBlock = some g ∧ w.heap.size ≤ g) (h2 : vt'.ownBlock = vt.ownBlock ∨ ∃ g, vt'.ownBlock = some g ∧ w.heap.size ≤ g) : Turn w b w' := by
  refine ⟨by rw [h.dof]; exact hc, fun k hk => ?_⟩
  rw [h'.dof] at hk
  rw [h.dof]
  rcases mem_own.1 hk with rfl | hk | hk
  · exact .inl (mem_own.2 (.inl rfl))
  · rcases h1 with h1 | ⟨g, hg, hle⟩
    · exact .inl (mem_own.2 (.inr (.inl (h1 ▸ hk))))
    · rw [hg] at hk; injection hk with hk; subst hk; exact .inr hle
  · rcases h2 with h2 | ⟨g, hg, hle⟩
    · exact .inl (mem_own.2 (.inr (.inr (h2 ▸ hk))))
    · rw [hg] at hk; injection hk with hk; subst hk; exact .inr hle
end

/-- The mill at b has come through k pieces of work since w6; the cells hold what they held. -/
structure Sp (w6 : World) (b : Nat) (R : Nat → List Wd → List Value → Prop) (D : List Nat) (cells : List (Addr × Value)) (k : Nat) (w : World) : Prop where
  pl : PlR w b (R k)
  chg : Chg w6 w (dof w6 b ++ D)
  sub : ∀ j ∈ dof w b, j ∈ dof w6 b ∨ w6.heap.size ≤ j
  cell : ∀ p ∈ cells, w.cell? p.1 = some p.2
def Fp (w6 : World) (b : Nat) (D U : List Nat) (w : World) (g : Nat) : Prop := g ∉ U ∧ g ∉ dof w b ∧ (g ∈ D ∨ w6.heap.size ≤ g)
section
variable {w6 w w' : World} {b k : Nat} {R : Nat → List Wd → List Value → Prop} {D U : List Nat} {cells : List (Addr × Value)}
theorem Sp.at_ (h : Sp w6 b R D cells k w) (i : Nat) (a : Addr) (v : Value) (hi : cells[i]? = some (a, v)) : w.cell? a = some v :=
  h.cell (a, v) (List.mem_of_getElem? hi)
theorem Sp.call (h : Sp w6 b R D cells k w) (hc : Chg w w' []) : Sp w6 b R D cells k w' :=
  ⟨h.pl.chg hc (by simp), h.chg.trans hc (by simp), by rw [dof_chg h.pl hc (by simp)]; exact h.sub, fun p hp => hc.cell (h.cell p hp) (by simp)⟩
/-- Of the mill's own blocks none is one that S knows. -/
structure Apart (w6 : World) (b : Nat) (D U : List Nat) (cells : List (Addr × Value)) : Prop where
  cell : ∀ p ∈ cells, p.1.block ∈ U
  lt : ∀ u ∈ U, u < w6.heap.size
  own : ∀ u ∈ U, u ∉ dof w6 b
  old : ∀ d ∈ D, d < w6.heap.size ∧ d ∉ dof w6 b
theorem Sp.apart (h : Sp w6 b R D cells k w) (ha : Apart w6 b D U cells) : ∀ u ∈ U, u ∉ dof w b := fun u hu hm => by
  rcases h.sub u hm with h1 | h1
  · exact ha.own u hu h1
  · have := ha.lt u hu; omega
theorem Sp.eff (h : Sp w6 b R D cells k w) (ha : Apart w6 b D U cells) (hp : PlR w' b (R (k + 1))) (ht : Turn w b w') : Sp w6 b R D cells (k + 1) w' := by
  refine ⟨hp, h.chg.trans ht.chg (fun j hj => ?_), fun j hj => ?_, fun p hp => ht.chg.cell (h.cell p hp) (h.apart ha _ (ha.cell p hp))⟩
  · rcases h.sub j hj with h1 | h1
    · exact .inl (List.mem_append_left _ h1)
    · exact .inr h1
  · rcases ht.sub j hj with h1 | h1
    · exact h.sub j h1
    · have := h.chg.size; right; omega
theorem Reg.keep_callp (r : Reg) (hF : r.F = Fp w6 b D U) (h : Sp w6 b R D cells k w) (hc : Chg w w' []) : r.Keep w w' :=
  ⟨hc.size, fun g hg hf => ⟨by rw [hF] at hf ⊢; exact ⟨hf.1, by rw [dof_chg h.pl hc (by simp)]; exact hf.2.1, hf.2.2⟩, hc.block g hg (by simp)⟩⟩
theorem Reg.keep_eff (r : Reg) (hF : r.F = Fp w6 b D U) (ht : Turn w b w') : r.Keep w w' :=
  ⟨ht.chg.size, fun g hg hf => by
    rw [hF] at hf ⊢
    refine ⟨⟨hf.1, fun hm => ?_, hf.2.2⟩, ht.chg.block g hg hf.2.1⟩
    rcases ht.sub g hm with h1 | h1
    · exact hf.2.1 h1
    · omega⟩
theorem stands_p (r : Reg) (ha : Apart w6 b D U cells) (hS : r.S = Sp w6 b R D cells) (hF : r.F = Fp w6 b D U) (hB : r.B = 0) : r.Stands := by
  refine ⟨fun n w o h => ?_, fun n w o g h hf => ?_, fun n w o h => ?_, fun n w w' g h hf _ _ hc hsz => ?_⟩
  · rw [hS] at h ⊢; exact h.call ((Chg.refl w []).alloc o)
  · rw [hS] at h; rw [hF] at hf ⊢
    exact ⟨hf.1, by rw [dof_chg h.pl ((Chg.refl w []).alloc o) (by simp)]; exact hf.2.1, hf.2.2⟩
  · rw [hS] at h
    rw [hF, hB]
    have := h.chg.size
    refine ⟨⟨fun hu => ?_, fun hm => ?_, .inr this⟩, Nat.zero_le _⟩
    · have := ha.lt _ hu; omega
    · rw [dof_chg h.pl ((Chg.refl w []).alloc o) (by simp)] at hm
      have := h.pl.lt _ hm; omega
  · rw [hS] at h ⊢
    rw [hF] at hf ⊢
    have hbg : b ∉ [g] := fun hm => by
      simp at hm; subst hm; exact hf.2.1 h.pl.mem
    have hd := dof_chg h.pl hc hbg
    refine ⟨⟨h.pl.chg hc (fun j hj hm => by simp at hm; subst hm; exact hf.2.1 hj), h.chg.trans hc ?_, by rw [hd]; exact h.sub, fun p hp => ?_⟩, fun g' h' => ⟨h'.1, by rw [hd]; exact h'.2.1, h'.2.2⟩⟩
    · intro j hj
      simp at hj
      subst hj
      exact hf.2.2.imp (fun h => List.mem_append_right _ h) id
    · exact hc.cell (h.cell p hp) (by simp; intro e; exact hf.1 (e ▸ ha.cell p hp))
theorem Sp.turn_far {u : Nat} (h : Sp w6 b R D cells k w) (hlt : u < w6.heap.size) (hu : u ∉ dof w6 b) : u ∉ dof w b := fun hm => by
  rcases h.sub u hm with h1 | h1
  · exact hu h1
  · omega
theorem Sp.turn (h : Sp w6 b R [] cells k w) : Turn w6 b w := ⟨by simpa using h.chg, h.sub⟩
end
theorem Turn.region {w0 w6 w : World} {b k : Nat} {R : Nat → List Wd → List Value → Prop} {D : List Nat} {cells : List (Addr × Value)} (ht : Turn w0 b w6) (h : Sp w6 b R D cells k w) (hD : ∀ d ∈ D, w0.heap.size ≤ d) : Turn w0 b w := by
  refine ⟨ht.chg.trans h.chg (fun j hj => ?_), fun j hj => ?_⟩
  · rcases List.mem_append.1 hj with h1 | h1
    · exact ht.sub j h1
    · exact .inr (hD j h1)
  · rcases h.sub j hj with h1 | h1
    · exact ht.sub j h1
    · have := ht.chg.size; right; omega
/-- A further region: what both leave. -/
theorem Sp.region {wb w6 w : World} {b k j : Nat} {R R' : Nat → List Wd → List Value → Prop} {D : List Nat} {cs cells : List (Addr × Value)} (h : Sp wb b R D cs j w6) (h' : Sp w6 b R' D cells k w) (hD : ∀ d ∈ D, d ∈ D) : Sp wb b R' D [] k w := by
  refine ⟨h'.pl, h.chg.trans h'.chg (fun i hi => ?_), fun i hi => ?_, by simp⟩
  · rcases List.mem_append.1 hi with h1 | h1
    · rcases h.sub i h1 with h2 | h2
      · exact .inl (List.mem_append_left _ h2)
      · exact .inr h2
    · exact .inl (List.mem_append_right _ h1)
  · rcases h'.sub i hi with h1 | h1
    · exact h.sub i h1
    · have := h.chg.size; right; omega
theorem Sp.with_ {wb w : World} {b k : Nat} {R : Nat → List Wd → List Value → Prop} {D : List Nat} {cells : List (Addr × Value)} (h : Sp wb b R D [] k w) (hc : ∀ p ∈ cells, w.cell? p.1 = some p.2) : Sp wb b R D cells k w :=
  ⟨h.pl, h.chg, h.sub, hc⟩
theorem Sp.here {w6 : World} {b : Nat} {R : Nat → List Wd → List Value → Prop} {D : List Nat} {cells : List (Addr × Value)} (hp : PlR w6 b (R 0)) (hc : ∀ p ∈ cells, w6.cell? p.1 = some p.2) : Sp w6 b R D cells 0 w6 :=
  ⟨hp, Chg.refl w6 _, fun j hj => .inl hj, hc⟩
theorem Turn.put {w0 w w' : World} {b g : Nat} {R : List Wd → List Value → Prop} (h : Turn w0 b w) (hp : PlR w b R) (hc : Chg w w' [g]) (hg : g ∉ dof w b) (hle : w0.heap.size ≤ g) : Turn w0 b w' := by
  have hb : b ∉ [g] := fun hm => by simp at hm; subst hm; exact hg hp.mem
  refine ⟨h.chg.trans hc (fun k hk => by simp at hk; subst hk; exact .inr hle), fun k hk => ?_⟩
  rw [dof_chg hp hc hb] at hk
  exact h.sub k hk
theorem Sp.start {w6 : World} {b : Nat} {R : Nat → List Wd → List Value → Prop} {D : List Nat} {cells : List (Addr × Value)} (hp : PlR w6 b (R 0)) (hc : ∀ p ∈ cells, w6.cell? p.1 = some p.2) : Sp w6 b R D cells 0 w6.drew :=
  ⟨hp.chg (Chg.refl w6 []).drew (by simp), (Chg.refl w6 _).drew, fun j hj => .inl hj, hc⟩
theorem far_of {w w6 : World} {b : Nat} {R : List Wd → List Value → Prop} (hp : PlR w b R) (hc : Chg w w6 []) : ∀ u, w.heap.size ≤ u → u ∉ dof w6 b := fun u hu hm => by
  rw [dof_chg hp hc (by simp)] at hm
  have := hp.lt u hm
  omega
theorem Turn.far {w w' : World} {b u : Nat} (ht : Turn w b w') (hu : u < w.heap.size) (h : u ∉ dof w b) : u ∉ dof w' b := fun hm => by
  rcases ht.sub u hm with h1 | h1
  · exact h h1
  · omega
theorem Turn.cell {w w' : World} {b : Nat} {a : Addr} {v : Value} (ht : Turn w b w') (hc : w.cell? a = some v) (h : a.block ∉ dof w b) : w'.cell? a = some v := ht.chg.cell hc h
theorem nil_cell (p : Addr) (w : World) : (nilAhead 234 59 (.pointer (some p)) "Cell").run Tryz.prog w = .ok (some false) w := by kernel_rfl
theorem meth_cell (p : Addr) (w : World) : (method 234 59 (.pointer (some p)) "Cell").run Tryz.prog w = .ok (138, .pointer (some p)) w := by kernel_rfl
theorem nil_get (p : Addr) (w : World) : (nilAhead 234 59 (.pointer (some p)) "Get").run Tryz.prog w = .ok (some false) w := by kernel_rfl
theorem meth_get (p : Addr) (w : World) : (method 234 59 (.pointer (some p)) "Get").run Tryz.prog w = .ok (142, .pointer (some p)) w := by kernel_rfl
theorem nil_set (p : Addr) (w : World) : (nilAhead 234 59 (.pointer (some p)) "Set").run Tryz.prog w = .ok (some false) w := by kernel_rfl
theorem meth_set (p : Addr) (w : World) : (method 234 59 (.pointer (some p)) "Set").run Tryz.prog w = .ok (144, .pointer (some p)) w := by kernel_rfl
theorem nil_loop (p : Addr) (w : World) : (nilAhead 234 59 (.pointer (some p)) "Loop").run Tryz.prog w = .ok (some false) w := by kernel_rfl
theorem meth_loop (p : Addr) (w : World) : (method 234 59 (.pointer (some p)) "Loop").run Tryz.prog w = .ok (143, .pointer (some p)) w := by kernel_rfl
theorem nil_table (p : Addr) (w : World) : (nilAhead 234 59 (.pointer (some p)) "Table").run Tryz.prog w = .ok (some false) w := by kernel_rfl
theorem meth_table (p : Addr) (w : World) : (method 234 59 (.pointer (some p)) "Table").run Tryz.prog w = .ok (145, .pointer (some p)) w := by kernel_rfl
theorem nil_at (p : Addr) (w : World) : (nilAhead 234 59 (.pointer (some p)) "At").run Tryz.prog w = .ok (some false) w := by kernel_rfl
theorem meth_at (p : Addr) (w : World) : (method 234 59 (.pointer (some p)) "At").run Tryz.prog w = .ok (137, .pointer (some p)) w := by kernel_rfl
end Go.Proofs.YtkfkoobdmnndcaaGreat
