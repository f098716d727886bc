/- Words for memory that this seat's walks share: what a call leaves as it was, blocks known whole, slices that read as lists. No program is in sight. -/
import Derived.Test.YtjfnpokebaagmaaGreatDoorRows
import Derived.WalkKit
import Derived.WalkSpells
import Derived.WalkLawsBesides
import Derived.Laws.CopyOwn
import Derived.Laws.EntriesVeiled
import Derived.Deep.Draws
import Derived.Deep.RegionHeld3
import Derived.Deep.OwnRows
import Derived.Maps.AppendAt
import Derived.BigQuiet
import Derived.Deep.QuietTactic
namespace Go.Proofs.YtjfnpokebaagmaaGreatDoor
open Go.RowKit
set_option linter.unusedVariables false

theorem hide {p : Prop} (h : p) : Hid p := h

/-- Only blocks of D, and new ones, may have turned. -/
structure Chg (w w' : World) (D : List Nat) : Prop where
  os : w'.os = w.os
  tape : w'.tape = w.tape
  output : w'.output = w.output
  size : w.heap.size ≤ w'.heap.size
  block : ∀ k, k < w.heap.size → k ∉ D → w'.heap[k]? = w.heap[k]?

/-- Block g is just the cells cs. -/
def Blk (w : World) (g : Nat) (t : TypeId) (cs : List Value) : Prop := w.heap[g]? = some (.cells cs.toArray t (0, 0))

theorem lt_of_heap {w : World} {g : Nat} {o : Obj} (h : w.heap[g]? = some o) : g < w.heap.size := (Array.getElem?_eq_some_iff.1 h).1

theorem heap_setCell_far (w : World) (p : Addr) (u : Value) (k : Nat) (h : k ≠ p.block) : (w.setCell p u).heap[k]? = w.heap[k]? := by
  simp [World.setCell, Array.getElem?_modify, Ne.symm h]
theorem size_setCell (w : World) (p : Addr) (u : Value) : (w.setCell p u).heap.size = w.heap.size := by simp [World.setCell]
theorem heap_alloc_far (w : World) (o : Obj) (k : Nat) (h : k < w.heap.size) : (w.alloc o).heap[k]? = w.heap[k]? := Below.heap_alloc w o k h
theorem size_alloc (w : World) (o : Obj) : (w.alloc o).heap.size = w.heap.size + 1 := by simp

section
variable {w w' w'' : World} {D D' : List Nat}
theorem Chg.refl (w : World) (D : List Nat) : Chg w w D := ⟨rfl, rfl, rfl, Nat.le_refl _, fun _ _ _ => rfl⟩
theorem Chg.more (h : Chg w w' D) (hD : ∀ k, k ∈ D → k ∈ D' ∨ w.heap.size ≤ k) : Chg w w' D' :=
  ⟨h.os, h.tape, h.output, h.size, fun k hk hn => h.block k hk (fun hm => by rcases hD k hm with h1 | h1; exact hn h1; omega)⟩
theorem Chg.trans (h : Chg w w' D) (h' : Chg w' w'' D') (hD : ∀ k, k ∈ D' → k ∈ D ∨ w.heap.size ≤ k) : Chg w w'' D :=
  ⟨h'.os.trans h.os, h'.tape.trans h.tape, h'.output.trans h.output, Nat.le_trans h.size h'.size, fun k hk hn =>
    (h'.block k (Nat.lt_of_lt_of_le hk h.size) (fun hm => by rcases hD k hm with h1 | h1; exact hn h1; omega)).trans (h.block k hk hn)⟩
theorem Chg.alloc (h : Chg w w' D) (o : Obj) : Chg w (w'.alloc o) D :=
  ⟨h.os, h.tape, h.output, by rw [size_alloc]; have := h.size; omega, fun k hk hn => (heap_alloc_far w' o k (Nat.lt_of_lt_of_le hk h.size)).trans (h.block k hk hn)⟩
theorem Chg.drew (h : Chg w w' D) : Chg w w'.drew D := ⟨h.os, h.tape, h.output, h.size, h.block⟩
theorem Chg.from_drew (h : Chg w.drew w' D) : Chg w w' D := ⟨h.os, h.tape, h.output, h.size, h.block⟩
theorem Chg.from_drewN {n : Nat} (h : Chg (w.drewN n) w' D) : Chg w w' D := ⟨h.os, h.tape, h.output, h.size, h.block⟩
theorem Chg.drewN (h : Chg w w' D) (n : Nat) : Chg w (w'.drewN n) D := ⟨h.os, h.tape, h.output, h.size, h.block⟩
theorem Chg.setCell (h : Chg w w' D) (p : Addr) (u : Value) (hp : p.block ∈ D ∨ w.heap.size ≤ p.block) : Chg w (w'.setCell p u) D :=
  ⟨h.os, h.tape, h.output, by rw [size_setCell]; exact h.size, fun k hk hn => (heap_setCell_far w' p u k (fun e => by subst e; rcases hp with h1 | h1; exact hn h1; omega)).trans (h.block k hk hn)⟩
theorem Chg.of_below (h : Below w.heap.size w w') : Chg w w' D := ⟨h.os, h.tape, h.output, h.size, fun k hk _ => h.block k hk⟩
theorem Chg.below {B : Nat} {w0 : World} (h : Chg w w' D) (hb : Below B w0 w) (hB : B ≤ w0.heap.size) (hD : ∀ k, k ∈ D → B ≤ k) : Below B w0 w' :=
  ⟨h.os.trans hb.os, h.tape.trans hb.tape, h.output.trans hb.output, Nat.le_trans hb.size h.size,
    fun i hi => (h.block i (Nat.lt_of_lt_of_le hi (Nat.le_trans hB hb.size)) (fun hm => by have := hD i hm; omega)).trans (hb.block i hi)⟩
theorem Chg.to_below (h : Chg w w' []) : Below w.heap.size w w' := h.below (Below.refl _ _) (Nat.le_refl _) (by simp)
theorem Chg.of_grown {row : Option Nat} (h : w.grownBy w' row) (hr : ∀ k, row = some k → k ∈ D ∨ w.heap.size ≤ k) : Chg w w' D :=
  ⟨h.os, h.tape, h.output, h.size, fun k hk hn => h.block k hk (fun e => by rcases hr k e.symm with h1 | h1; exact hn h1; omega)⟩
theorem Chg.cell (h : Chg w w' D) {a : Addr} {v : Value} (hc : w.cell? a = some v) (hn : a.block ∉ D) : w'.cell? a = some v :=
  (World.cell?_of_block (h.block a.block (World.block_lt_of_cell? w a hc) hn)).trans hc
theorem Chg.frozen (h : Chg w w' D) {a : Addr} (hlt : a.block < w.heap.size) (hn : a.block ∉ D) : w'.frozen? a = w.frozen? a :=
  World.frozen?_of_block (h.block a.block hlt hn)
theorem Chg.heap (h : Chg w w' D) {k : Nat} {o : Obj} (hc : w.heap[k]? = some o) (hn : k ∉ D) : w'.heap[k]? = some o :=
  (h.block k (lt_of_heap hc) hn).trans hc
end

section
variable {w w' : World} {g : Nat} {t : TypeId} {cs : List Value} {D : List Nat}
theorem Blk.lt (h : Blk w g t cs) : g < w.heap.size := lt_of_heap h
theorem Blk.cell (h : Blk w g t cs) (i : Nat) : w.cell? ⟨g, i, none⟩ = cs[i]? := by
  have := cell_of_row w g i cs.toArray t (0, 0) h
  simpa using this
theorem Blk.cell' (h : Blk w g t cs) {i : Nat} {v : Value} (hv : cs[i]? = some v) : w.cell? ⟨g, i, none⟩ = some v := (h.cell i).trans hv
theorem Blk.frozen (h : Blk w g t cs) (i : Nat) : w.frozen? ⟨g, i, none⟩ = false := by
  unfold Blk at h
  simp [World.frozen?, h]
theorem Blk.new (w : World) (t : TypeId) (cs : List Value) : Blk (w.alloc (.cells cs.toArray t)) w.heap.size t cs := heap_alloc_new w _
theorem Blk.drew (h : Blk w g t cs) : Blk w.drew g t cs := h
theorem Blk.drewN (h : Blk w g t cs) (n : Nat) : Blk (w.drewN n) g t cs := h
theorem Blk.alloc (h : Blk w g t cs) (o : Obj) : Blk (w.alloc o) g t cs := (heap_alloc_far w o g h.lt).trans h
theorem Blk.set_ (h : Blk w g t cs) (i : Nat) (u : Value) : Blk (w.setCell ⟨g, i, none⟩ u) g t (cs.set i u) := by
  unfold Blk at h ⊢
  simp [World.setCell, Array.getElem?_modify, h]
theorem Blk.far (h : Blk w g t cs) {p : Addr} (hp : g ≠ p.block) (u : Value) : Blk (w.setCell p u) g t cs := (heap_setCell_far w p u g hp).trans h
theorem Blk.chg (h : Blk w g t cs) (hb : Chg w w' D) (hg : g ∉ D) : Blk w' g t cs := hb.heap h hg
theorem Blk.ne_ {g' : Nat} {t' : TypeId} {cs' : List Value} (h : Blk w g t cs) (h' : Blk w g' t' cs') (hne : t ≠ t') : g ≠ g' := by
  rintro rfl
  unfold Blk at h h'
  rw [h] at h'
  injection h' with h'
  injection h' with _ ht
  exact hne ht
end

theorem block_of_add (a : Addr) (n : Nat) : (a.add n).block = a.block := by unfold Addr.add; split <;> rfl
theorem add_plain (g off n : Nat) : (⟨g, off, none⟩ : Addr).add n = ⟨g, off + n, none⟩ := by unfold Addr.add; split <;> simp_all
theorem plain_of_cell {w : World} {a : Addr} {v : Value} (h : w.cell? a = some v) : a = ⟨a.block, a.off, none⟩ := by
  rcases a with ⟨b, o, s⟩
  rcases s with _ | s
  · rfl
  · unfold World.cell? at h
    split at h
    · simp at h
    · cases h

/-- The slice value v reads as the cells xs (each element one cell). -/
def Sl (w : World) (v : Value) (xs : List Value) : Prop :=
  ∃ A c, v = .slice A xs.length c ∧ xs.length ≤ c ∧ (0 < xs.length → ∃ b off, A = some ⟨b, off, none⟩ ∧ ∀ k, k < xs.length → w.cell? ⟨b, off + k, none⟩ = xs[k]?)

section
variable {w w' : World} {v : Value} {xs : List Value} {D : List Nat}
theorem Sl.at_ {A : Option Addr} {n c k : Nat} {u : Value} (h : Sl w (.slice A n c) xs) (hk : xs[k]? = some u) : ∃ b off, A = some ⟨b, off, none⟩ ∧ w.cell? ⟨b, off + k, none⟩ = some u ∧ b < w.heap.size := by
  obtain ⟨A', c', hv, hc, hx⟩ := h
  have hlt : k < xs.length := (List.getElem?_eq_some_iff.1 hk).1
  obtain ⟨b, off, rfl, h2⟩ := hx (by omega)
  injection hv with hA _ _
  have hs : w.cell? ⟨b, off + k, none⟩ = some u := (h2 k hlt).trans hk
  exact ⟨b, off, hA, hs, World.block_lt_of_cell? w _ hs⟩
theorem Sl.chg (h : Sl w v xs) (hb : Chg w w' D) (hD : ∀ A n c, v = .slice (some A) n c → A.block ∉ D) : Sl w' v xs := by
  obtain ⟨A, c, hv, hc, hx⟩ := h
  refine ⟨A, c, hv, hc, fun h0 => ?_⟩
  obtain ⟨b, off, rfl, h2⟩ := hx h0
  refine ⟨b, off, rfl, fun k hk => ?_⟩
  have hs : w.cell? ⟨b, off + k, none⟩ = some xs[k] := (h2 k hk).trans (List.getElem?_eq_getElem hk)
  exact (hb.cell hs (by have := hD _ _ _ hv; exact this)).trans (List.getElem?_eq_getElem hk).symm
theorem Sl.chg0 (h : Sl w v xs) (hb : Chg w w' D) (hD : 0 < xs.length → ∀ A n c, v = .slice (some A) n c → A.block ∉ D) : Sl w' v xs := by
  by_cases h0 : 0 < xs.length
  · exact h.chg hb (hD h0)
  · obtain ⟨A, c, hv, hc, _⟩ := h
    exact ⟨A, c, hv, hc, fun h1 => absurd h1 h0⟩
theorem Sl.drew (h : Sl w v xs) : Sl w.drew v xs := h
theorem Sl.drewN (h : Sl w v xs) (n : Nat) : Sl (w.drewN n) v xs := h
theorem Sl.below (h : Sl w v xs) (hb : Below w.heap.size w w') : Sl w' v xs := h.chg (D := []) (Chg.of_below hb) (by simp)
theorem Sl.keep (h : Sl w v xs) (hb : Chg w w' []) : Sl w' v xs := h.chg hb (by simp)
theorem Sl.blk {g : Nat} {t : TypeId} {ys : List Value} {n c : Nat} (h : Blk w g t ys) (hn : n ≤ ys.length) (hc : n ≤ c) : Sl w (.slice (some ⟨g, 0, none⟩) n c) (ys.take n) := by
  have hl : (ys.take n).length = n := by simp; omega
  refine ⟨some ⟨g, 0, none⟩, c, by rw [hl], by omega, fun _ => ⟨g, 0, rfl, fun k hk => ?_⟩⟩
  rw [Nat.zero_add, h.cell, List.getElem?_take]
  rw [if_pos (by omega)]
theorem Sl.blk' {g : Nat} {t : TypeId} {ys : List Value} {n c : Nat} (h : Blk w g t ys) (hn : n = ys.length) (hc : n ≤ c) : Sl w (.slice (some ⟨g, 0, none⟩) n c) ys := by
  subst hn
  simpa using Sl.blk h (Nat.le_refl _) hc
theorem Sl.own {base e : Nat} {n : Nat} (h : w.ownsRow base e 1 v n xs) : Sl w v xs := by
  have hl := h.1
  rcases h.2 with ⟨rfl, h0⟩ | ⟨g, cap, cur, rfl, h1, h2, h3, h4, h5, h6⟩
  · subst h0
    have : xs = [] := List.eq_nil_of_length_eq_zero (by simpa using hl)
    subst this
    exact ⟨none, 0, rfl, by simp, by simp⟩
  · have hn : n = xs.length := by omega
    subst hn
    refine ⟨_, cap, rfl, h3, fun _ => ⟨g, 0, rfl, fun k hk => ?_⟩⟩
    have := (h.cells (g := g) rfl k _ (List.getElem?_eq_getElem hk)).trans (List.getElem?_eq_getElem hk).symm
    rwa [add_plain] at this
end

/-- A slice that came in (the frame's word of it) reads as a list. -/
theorem Sl.of_row {k : IntKind} {w : World} {a : Option Addr} {len cap : Nat} {zs : List Int}
    (h : (a = none ∧ len = 0 ∧ cap = 0 ∧ zs = []) ∨
      ∃ x, a = some x ∧ len ≤ cap ∧ cap ≤ maxLen ∧ zs.length = cap ∧ (∀ i, i < zs.length → w.cell? (x.add i) = some (.int k (zs.getD i 0))) ∧ ∀ n ∈ zs, (Lit.int k n).wf = true) :
    Sl w (.slice a len cap) ((zs.take len).map (.int k)) ∧ (zs.take len).length = len ∧ len ≤ maxLen ∧ ∀ n ∈ zs.take len, (Lit.int k n).wf = true := by
  rcases h with ⟨rfl, rfl, rfl, rfl⟩ | ⟨x, rfl, hl, hm, hz, hc, hw⟩
  · exact ⟨⟨none, 0, rfl, by simp, by simp⟩, rfl, by simp, by simp⟩
  · have hlen : (zs.take len).length = len := by simp; omega
    refine ⟨⟨some x, cap, by rw [List.length_map, hlen], by simp; omega, fun h0 => ?_⟩, hlen, by omega, fun n hn => hw n (List.mem_of_mem_take hn)⟩
    have h0' : 0 < len := by rwa [List.length_map, hlen] at h0
    have hx : x = ⟨x.block, x.off, none⟩ := by
      have := hc 0 (by omega)
      rw [show x.add 0 = x by unfold Addr.add; simp] at this
      exact plain_of_cell this
    refine ⟨x.block, x.off, by rw [← hx], fun k hk => ?_⟩
    have hk' : k < len := by rwa [List.length_map, hlen] at hk
    rw [← add_plain, ← hx, hc k (by omega)]
    simp [hk', List.getD_eq_getElem?_getD, show k < zs.length by omega]

def i32s (zs : List Int) : List Value := zs.map (Value.int .i32)
@[simp] theorem length_i32s (zs : List Int) : (i32s zs).length = zs.length := by simp [i32s]
theorem i32s_at (zs : List Int) (i : Nat) (h : i < zs.length) : (i32s zs)[i]? = some (.int .i32 (zs.getD i 0)) := by
  simp [i32s, h, List.getD_eq_getElem?_getD]
theorem i32s_set (zs : List Int) (i : Nat) (x : Int) : i32s (zs.set i x) = (i32s zs).set i (.int .i32 x) := by simp [i32s, List.map_set]

theorem Sl.front {w : World} {g : Nat} {t : TypeId} {xs rest : List Value} {n c : Nat} (h : Blk w g t (xs ++ rest)) (hn : n = xs.length) (hc : n ≤ c) : Sl w (.slice (some ⟨g, 0, none⟩) n c) xs := by
  subst hn
  have h3 := Sl.blk (n := xs.length) (c := c) h (by simp) hc
  rwa [List.take_left] at h3
theorem Sl.set_front {w : World} {g : Nat} {t : TypeId} {xs rest : List Value} {n c i : Nat} {u : Value} (h : Blk w g t (xs ++ rest)) (hn : n = xs.length) (hc : n ≤ c) (hi : i < n) :
    Sl (w.setCell ⟨g, i, none⟩ u) (.slice (some ⟨g, 0, none⟩) n c) (xs.set i u) := by
  subst hn
  have h2 := h.set_ i u
  rw [List.set_append_left _ _ hi] at h2
  have h3 := Sl.blk (n := xs.length) (c := c) h2 (by simp) hc
  rwa [show xs.length = (xs.set i u).length by simp, List.take_left, show (xs.set i u).length = xs.length by simp] at h3

theorem ret_bool {a b : Bool} (h : a = b) : Ending.returned (.bool a) = .returned (.bool b) := by rw [h]
theorem ret_int {k : IntKind} {a b : Int} (h : a = b) : Ending.returned (.int k a) = .returned (.int k b) := by rw [h]

theorem one_ints {k : IntKind} (zs : List Int) : ∀ v ∈ zs.map (Value.int k), v.oneCell' = true := by
  intro v hv
  obtain ⟨z, _, rfl⟩ := List.mem_map.1 hv
  rfl

theorem one_i32s (zs : List Int) : ∀ v ∈ i32s zs, v.oneCell' = true := one_ints zs

/-- 'copy' onto the whole of a block. -/
theorem wpList_copy_all {P : Program} {w : World} {ops : Array Oper} {rest : List Oper} {o : Oper} {a : Act} {Q : Exit → Act → World → Prop} (hgd : o.guard = none) (d s : Operand) (dT sT : TypeId)
    (ho : o.op = .call { callee := .builtin .copy, args := #[d, s], argTypes := #[dT, sT] }) (elem : TypeId) (hu : P.underlying dT = some (.slice elem)) (hsz : (P.info? elem).map (·.size) = some 1)
    (g n c : Nat) (v : Value) (xs cur : List Value) (t : TypeId) (hd : a.eval d = .slice (some ⟨g, 0, none⟩) n c) (hs : a.eval s = v) (hg : Blk w g t cur) (hsl : Sl w v xs) (hn : cur.length = n) (hx : xs.length = n)
    (h1 : ∀ v ∈ xs, v.oneCell' = true) (h : ∀ w', Hid (Blk w' g t xs) → Hid (Chg w w' [g]) → wpList P ops Q rest (a.put o.dst (goInt n)) w') :
    wpList P ops Q (o :: rest) a w := by
  obtain ⟨A, c', rfl, hc, hk⟩ := hsl
  by_cases h0 : xs.length = 0
  · refine wpList_copy_nothing hgd d s dT sT ho elem hu hsz (some ⟨g, 0, none⟩) A n c xs.length c' hd hs (by simp [h0]) ?_
    have hx0 : xs = [] := List.eq_nil_of_length_eq_zero h0
    have hn0 : n = 0 := by omega
    have hc0 : cur = [] := List.eq_nil_of_length_eq_zero (by omega)
    subst hn0
    exact h w (show Blk w g t xs by rw [hx0, ← hc0]; exact hg) (Chg.refl _ _)
  · obtain ⟨sb, so, rfl, hk2⟩ := hk (by omega)
    refine wpList_copy_own hgd d s dT sT ho elem hu hsz g 0 n c ⟨sb, so, none⟩ xs.length c' hd hs cur.toArray t hg xs (by simp [hx]) ?_ (by simp; omega) h1 ?_
    · intro j u hu
      have hj : j < xs.length := (List.getElem?_eq_some_iff.1 hu).1
      rw [add_plain]
      exact (hk2 j hj).trans hu
    · rw [hx]
      refine h _ ?_ ?_
      · have := setRow_heap w g cur.toArray (xs ++ cur.drop n).toArray t _ hg
        have hdr : cur.drop n = [] := List.drop_eq_nil_of_le (by omega)
        show Blk _ _ _ _
        unfold Blk
        simpa [hdr] using this
      · exact ⟨rfl, rfl, rfl, by simp [World.setRow], fun k _ hk => setRow_other w g k _ (fun e => hk (by simp [e]))⟩

/-- n cells of z, behind a name (the walk writes a plain replicate anew). -/
def zeros (z : Value) (n : Nat) : List Value := List.replicate n z
theorem length_zeros (z : Value) (n : Nat) : (zeros z n).length = n := by simp [zeros]
theorem madeCells_zeros (z : Value) (n : Nat) : madeCells #[z] n = (zeros z n).toArray := by
  unfold zeros
  apply Array.ext
  · simp [madeCells]
  · intro i h1 h2
    simp [madeCells, Nat.mod_one]

theorem own_form {w : World} {base e n : Nat} {v : Value} {xs : List Value} (h : w.ownsRow base e 1 v n xs) (hn : 0 < n) :
    ∃ g cap rest, v = .slice (some ⟨g, 0, none⟩) n cap ∧ base ≤ g ∧ Blk w g e (xs ++ rest) ∧ n ≤ cap := by
  rcases h.2 with ⟨rfl, h0⟩ | ⟨g, cap, cur, rfl, h1, h2, h3, h4, h5, h6⟩
  · omega
  · refine ⟨g, cap, cur.toList.drop (n * 1), rfl, h1, ?_, h3⟩
    unfold Blk
    rw [← h6, List.take_append_drop]
    simpa using h2

/-- 'append' of a slice that reads as a list onto a row of the call's own (one cell an element). -/
theorem wpList_append_sl {P : Program} {w : World} {ops : Array Oper} {rest : List Oper} {o : Oper} {a : Act} {Q : Exit → Act → World → Prop} (hgd : o.guard = none) (s x : Operand) (t : TypeId)
    (ho : o.op = .call { callee := .builtin .append, args := #[s, x], argTypes := #[t, t] })
    (base : Nat) (e : TypeId) (i : TypeInfo) (z : Value) (bytes : Nat) (ht : P.underlying t = some (.slice e)) (hi : P.info? e = some i) (hz : i.zero = some z)
    (hsize : i.size = 1) (hby : i.bytes = bytes) (hzs : z.cells.size = 1)
    (v : Value) (n : Nat) (xs : List Value) (hs : a.eval s = v) (hown : w.ownsRow base e 1 v n xs)
    (sv : Value) (news : List Value) (hx : a.eval x = sv) (hr : Sl w sv news) (h1 : ∀ u ∈ news, u.oneCell' = true)
    (h63 : n + news.length ≤ maxLen) (hbytes : (n + news.length) * bytes ≤ 140737488355328) (hbase : base ≤ w.heap.size)
    (h : ∀ v' w', Hid (w'.ownsRow base e 1 v' (n + news.length) (xs ++ news)) → Hid (w.grownBy w' v.ownBlock) → Hid (v'.ownBlock = v.ownBlock ∨ v'.ownBlock = some w.heap.size) → wpList P ops Q rest (a.put o.dst v') w') :
    wpList P ops Q (o :: rest) a w := by
  refine wpList_plain hgd fun K hK => ?_
  have hrun : ∃ v' w', (Builtin.append_ #[t, t] o.type #[v, sv]).run P w = .ok v' w' ∧ w'.ownsRow base e 1 v' (n + news.length) (xs ++ news) ∧ w.grownBy w' v.ownBlock ∧
      (v'.ownBlock = v.ownBlock ∨ v'.ownBlock = some w.heap.size) := by
    obtain ⟨A, c, rfl, hc, hk⟩ := hr
    rcases A with _ | ad
    · have hn : news = [] := by
        rcases news with _ | ⟨u, l⟩
        · rfl
        · obtain ⟨_, _, h, _⟩ := hk (by simp)
          cases h
      subst hn
      refine ⟨v, w, ?_, by simpa using hown, ⟨rfl, rfl, rfl, Nat.le_refl _, fun _ _ _ => rfl⟩, .inl rfl⟩
      rcases hown.2 with ⟨rfl, rfl⟩ | ⟨g, cap, cur, rfl, _, _, hnc, _⟩
      · simp [Builtin.append_, run_underlying ht, sizeOf, typeInfo, hi, Builtin.lenOf, Builtin.firstCells]
      · simp [Builtin.append_, run_underlying ht, sizeOf, typeInfo, hi, Builtin.lenOf, Builtin.firstCells, hnc, storeCells]
    · obtain ⟨v', w', hrun, h2, h3, _, h5⟩ := run_append_own_at (P := P) w base t o.type e i z 1 bytes ht hi hz hsize hby hzs (by omega) v n xs hown ad news.length c news (by simp)
        (fun j u hu => by
          have hj : j < news.length := (List.getElem?_eq_some_iff.1 hu).1
          obtain ⟨sb, so, e, hcell⟩ := hk (by omega)
          injection e with e
          subst e
          rw [add_plain]
          exact (hcell j hj).trans hu) h1 h63 hbytes hbase
      exact ⟨v', w', hrun, h2, h3, h5⟩
  obtain ⟨v', w', hrun, h2, h3, h4⟩ := hrun
  unfold Oper.wp execOp
  simp only [ho, resolve, invoke, builtin, Sem.run_bind, Sem.run_pure, Result.andThen_ok, List.map_toArray, List.map_cons, List.map_nil, hs, hx, hrun]
  exact hK _ _ (h v' w' h2 h3 h4)

end Go.Proofs.YtjfnpokebaagmaaGreatDoor
