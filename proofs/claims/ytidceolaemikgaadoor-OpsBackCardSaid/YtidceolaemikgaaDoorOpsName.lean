/- Name and Find of package ops. -/
import Derived.Test.YtidceolaemikgaaDoorOpsIter
import Derived.Lib.SlicesS
namespace Go.Proofs.YtidceolaemikgaaDoor
open Go.RowKit Go.Deep Go.Shelf
set_option linter.unusedVariables false
attribute [local go_sem] Oper.semAt_some

theorem cell_box {W : World} {B : Nat} {v : Value} {t : TypeId} (h : W.heap[B]? = some (.cells #[v] t (0, 0))) : W.cell? ⟨B, 0, none⟩ = some v ∧ W.frozen? ⟨B, 0, none⟩ = false := by
  constructor <;> simp [World.cell?, World.frozen?, h]
theorem cell_new (W : World) (v : Value) (t : TypeId) : (W.alloc (.cells #[v] t)).cell? ⟨W.heap.size, 0, none⟩ = some v ∧ (W.alloc (.cells #[v] t)).frozen? ⟨W.heap.size, 0, none⟩ = false :=
  cell_box (World.alloc_heap_new W _)
theorem cell_al {W : World} {a : Addr} {v : Value} (o : Obj) (h : W.cell? a = some v) : (W.alloc o).cell? a = some v := cell_kept h (World.grownBy_alloc W o none) (fun r e => by cases e)
theorem frozen_al {W : World} {a : Addr} {v : Value} (o : Obj) (h : W.cell? a = some v) (hf : W.frozen? a = false) : (W.alloc o).frozen? a = false := (frozen_kept h (World.grownBy_alloc W o none) (fun r e => by cases e)).trans hf
theorem KC.setCell {rb : Nat} (W : World) (u : Value) : KC rb W (W.setCell ⟨rb, 0, none⟩ u) := fun k cs t fr hk h0 => (heap_setCell_far W _ u k hk).trans h0
theorem KC.refl {rb : Nat} (W : World) : KC rb W W := fun _ _ _ _ _ h => h

def nameOf (op : Int) : ByteArray := if 1 ≤ op ∧ op ≤ 43 then nm (op - 1).toNat else ⟨#[]⟩

set_option maxRecDepth 100000 in
set_option maxHeartbeats 2000000 in
theorem Name_calls (op : Int) (w : World) (ht : Tab w) : Calls Tryd.prog 8 #[.int .i64 op] w fun e W' => e = .returned (.string (nameOf op)) ∧ Below w.heap.size w W' := by
  refine (callsIn_wide (n := 6)).1 ?_
  refine callsIn_of_wp_marks Tryd.func8 rfl trivial ?_ rfl
  simp only [Tryd.ntmps8, List.size_toArray, List.length_cons, List.length_nil, Nat.reduceAdd, Nat.reduceSub, Array.replicate_succ, Array.replicate_zero, List.push_toArray, List.append_toArray, List.nil_append, List.cons_append]
  gi_wp2_with fail
  refine ⟨trivial, ?_⟩
  refine (callsIn_wide.2 (all_calls _)).mono ?_
  rintro e w1 ⟨rfl, rfl⟩
  gi_wp2_with fail
  have c0 := cell_new w (.int .i64 op) 3
  have c1 := cell_new (w.alloc (.cells #[.int .i64 op] 3)) (.string ⟨#[]⟩) 9
  simp only [World.size_alloc] at c1
  have hB0 : Below w.heap.size w ((w.alloc (.cells #[.int .i64 op] 3)).alloc (.cells #[.string ⟨#[]⟩] 9)) := ((Below.refl _ w).alloc (Nat.le_refl _) _).alloc (by simp) _
  refine wpIn_rangeFunc_ownF rfl (by decide) (gf := 42) (lb := #[]) rfl trivial (enters_of Tryd.func42 (by kernel_rfl) rfl)
    (iter_stops (6 - 1) (w.heap.size + 1) (by decide) _ (ht.below hB0) (by simp)) KC.trans (fun W l o o' hl h0 hc hw => KC.putObj (B := w.heap.size + 2) W l o o' (by simpa using hl) h0 hc hw) (Below.refl _ _) (fun _ => rfl)
    (fun pre W => ((∀ y ∈ pre, ((y.val : Int) + 1) ≠ op) ∧ W.cell? ⟨w.heap.size, 0, none⟩ = some (.int .i64 op) ∧ W.cell? ⟨w.heap.size + 1, 0, none⟩ = some (.string ⟨#[]⟩) ∧ W.frozen? ⟨w.heap.size + 1, 0, none⟩ = false) ∧ Below w.heap.size w W)
    (fun c pre W => (c = .ret ∧ ∃ y : Fin 43, ((y.val : Int) + 1) = op ∧ W.cell? ⟨w.heap.size + 1, 0, none⟩ = some (.string (nm y.val))) ∧ Below w.heap.size w W)
    (OwnFrom.and (Own.from (fun s A B row hs hg hr => ⟨hs.1, cell_kept hs.2.1 hg hr, cell_kept hs.2.2.1 hg hr, (frozen_kept hs.2.2.1 hg hr).trans hs.2.2.2⟩) _) (ownFrom_below (Nat.le_refl _) (by simp; omega)))
    (fun c => OwnFrom.and (Own.from (fun s A B row hs hg hr => ⟨hs.1, by obtain ⟨_, y, hy, hc⟩ := hs; exact ⟨y, hy, cell_kept hc hg hr⟩⟩) _) (ownFrom_below (Nat.le_refl _) (by simp; omega)))
    ⟨⟨by simp, cell_al _ c0.1, c1.1, c1.2⟩, hB0⟩
    (fun x => { tmps := #[.int .i64 op, .pointer (some ⟨w.heap.size, 0, none⟩), .pointer (some ⟨w.heap.size + 1, 0, none⟩), .int .i64 ((x.val : Int) + 1), .string (nm x.val), .func (.func 42) #[] #[], .int .i64 ((x.val : Int) + 1), .string (nm x.val), undef, undef, undef, undef], defers := [] }) ?assign ?body ?done ?stop
  case assign =>
    intro l x W K hK
    unfold encs
    gi_wp2
    exact hK
  case body =>
    rintro l pre x W ⟨⟨hp, hcw, hcr, hfr⟩, hB⟩ _
    by_cases hx : ((x.val : Int) + 1) = op
    · have hd : (((x.val : Int) + 1) == op) = true := by simpa using hx
      gi_wp2
      exact ⟨KeepsOthers.setCell _ _ _, ⟨rfl, x, hx, World.cell?_setCell_same' _ _ _ (by rw [hcr]; rfl)⟩, hB.setCell (p := ⟨w.heap.size + 1, 0, none⟩) (by simp) _⟩
    · have hd : (((x.val : Int) + 1) == op) = false := by simpa using hx
      gi_wp2
      exact ⟨KeepsOthers.refl _, KC.refl _, ⟨fun y hy => (List.mem_append.1 hy).elim (hp y) (fun e => by simp at e; subst e; exact hx), hcw, hcr, hfr⟩, hB⟩
  case done =>
    rintro D ys W hD hall ⟨⟨hne, _, hcr, hfr⟩, hB⟩ hK
    gi_wp2
    have hK' := (KeepsOthers.setCell W ⟨w.heap.size + 1, 0, none⟩ (.string ⟨#[]⟩)).same D _ hK rfl
    refine ⟨by simp, .inl ⟨_, _, rfl, run_takeDeferred hK', ?_⟩⟩
    have hc5 := cell_kept (World.cell?_setCell_same' W ⟨w.heap.size + 1, 0, none⟩ (.string ⟨#[]⟩) (by rw [hcr]; rfl)) (grownBy_putObj' _ D (.deferred none)) (fun r e => by cases e; exact ⟨_, hK', rfl⟩)
    have hn : nameOf op = ⟨#[]⟩ := by
      unfold nameOf
      split
      · rename_i h
        exact absurd (by simp; omega) (hne ⟨(op - 1).toNat, by omega⟩ (hall _))
      · rfl
    refine ⟨.string ⟨#[]⟩, ?_, by rw [hn], (hB.setCell (p := ⟨w.heap.size + 1, 0, none⟩) (by simp) _).trans (belowK_b (w := w) (Nat.le_refl _) _ D _ _ (by simp at hD; omega) hK' rfl rfl)⟩
    simp [results, Tryd.f8, go_sem, hc5]
  case stop =>
    rintro D c pre W hD hpre ⟨⟨rfl, y, hy, hcr⟩, hB⟩ hK
    gi_wp2
    refine ⟨by simp, .inl ⟨_, _, rfl, run_takeDeferred hK, ?_⟩⟩
    have hc5 := cell_kept hcr (grownBy_putObj' _ D (.deferred none)) (fun r e => by cases e; exact ⟨_, hK, rfl⟩)
    have hn : nameOf op = nm y.val := by
      unfold nameOf
      have := y.isLt
      rw [if_pos (by omega), show (op - 1).toNat = y.val by omega]
    refine ⟨.string (nm y.val), ?_, by rw [hn], hB.trans (belowK_b (w := w) (Nat.le_refl _) W D _ _ (by simp at hD; omega) hK rfl rfl)⟩
    simp [results, Tryd.f8, go_sem, hc5]

def findOf (s : ByteArray) : Int := ((List.finRange 43).find? fun y => decide (nm y.val = s)).elim 0 fun y => (y.val : Int) + 1
theorem nm_inj : ((List.finRange 43).all fun x => (List.finRange 43).all fun y => !decide (nm x.val = nm y.val) || decide (x = y)) = true := by kernel_rfl
theorem findOf_no {s : ByteArray} (h : ∀ y : Fin 43, nm y.val ≠ s) : findOf s = 0 := by
  unfold findOf
  rw [List.find?_eq_none.2 (fun y _ => by simpa using h y)]; rfl
theorem findOf_yes {s : ByteArray} {y : Fin 43} (h : nm y.val = s) : findOf s = (y.val : Int) + 1 := by
  unfold findOf
  cases e : (List.finRange 43).find? fun y => decide (nm y.val = s) with
  | none => exact absurd (List.find?_eq_none.1 e y (List.mem_finRange y)) (by simpa using h)
  | some z =>
    have hz : nm z.val = s := by simpa using List.find?_some e
    have := List.all_eq_true.1 (List.all_eq_true.1 nm_inj z (List.mem_finRange z)) y (List.mem_finRange y)
    rw [hz, ← h] at this
    have hzy : z = y := by simpa using this
    subst hzy; rfl

set_option maxRecDepth 100000 in
set_option maxHeartbeats 2000000 in
theorem Find_calls (s : ByteArray) (w : World) (ht : Tab w) : Calls Tryd.prog 10 #[.string s] w fun e W' => e = .returned (.int .i64 (findOf s)) ∧ Below w.heap.size w W' := by
  refine (callsIn_wide (n := 6)).1 ?_
  refine callsIn_of_wp_marks Tryd.func10 rfl trivial ?_ rfl
  simp only [Tryd.ntmps10, List.size_toArray, List.length_cons, List.length_nil, Nat.reduceAdd, Nat.reduceSub, Array.replicate_succ, Array.replicate_zero, List.push_toArray, List.append_toArray, List.nil_append, List.cons_append]
  gi_wp2_with fail
  refine ⟨trivial, ?_⟩
  refine (callsIn_wide.2 (all_calls _)).mono ?_
  rintro e w1 ⟨rfl, rfl⟩
  gi_wp2_with fail
  have c0 := cell_new w (.string s) 9
  have c1 := cell_new (w.alloc (.cells #[.string s] 9)) (.int .i64 0) 3
  simp only [World.size_alloc] at c1
  have hB0 : Below w.heap.size w ((w.alloc (.cells #[.string s] 9)).alloc (.cells #[.int .i64 0] 3)) := ((Below.refl _ w).alloc (Nat.le_refl _) _).alloc (by simp) _
  refine wpIn_rangeFunc_ownF rfl (by decide) (gf := 42) (lb := #[]) rfl trivial (enters_of Tryd.func42 (by kernel_rfl) rfl)
    (iter_stops (6 - 1) (w.heap.size + 1) (by decide) _ (ht.below hB0) (by simp)) KC.trans (fun W l o o' hl h0 hc hw => KC.putObj (B := w.heap.size + 2) W l o o' (by simpa using hl) h0 hc hw) (Below.refl _ _) (fun _ => rfl)
    (fun pre W => ((∀ y ∈ pre, nm y.val ≠ s) ∧ W.cell? ⟨w.heap.size, 0, none⟩ = some (.string s) ∧ W.cell? ⟨w.heap.size + 1, 0, none⟩ = some (.int .i64 0) ∧ W.frozen? ⟨w.heap.size + 1, 0, none⟩ = false) ∧ Below w.heap.size w W)
    (fun c pre W => (c = .ret ∧ ∃ y : Fin 43, nm y.val = s ∧ W.cell? ⟨w.heap.size + 1, 0, none⟩ = some (.int .i64 ((y.val : Int) + 1))) ∧ Below w.heap.size w W)
    (OwnFrom.and (Own.from (fun s A B row hs hg hr => ⟨hs.1, cell_kept hs.2.1 hg hr, cell_kept hs.2.2.1 hg hr, (frozen_kept hs.2.2.1 hg hr).trans hs.2.2.2⟩) _) (ownFrom_below (Nat.le_refl _) (by simp; omega)))
    (fun c => OwnFrom.and (Own.from (fun s A B row hs hg hr => ⟨hs.1, by obtain ⟨_, y, hy, hc⟩ := hs; exact ⟨y, hy, cell_kept hc hg hr⟩⟩) _) (ownFrom_below (Nat.le_refl _) (by simp; omega)))
    ⟨⟨by simp, cell_al _ c0.1, c1.1, c1.2⟩, hB0⟩
    (fun x => { tmps := #[.string s, .pointer (some ⟨w.heap.size, 0, none⟩), .pointer (some ⟨w.heap.size + 1, 0, none⟩), .int .i64 ((x.val : Int) + 1), .string (nm x.val), .func (.func 42) #[] #[], .int .i64 ((x.val : Int) + 1), .string (nm x.val), undef, undef, undef, undef], defers := [] }) ?assign ?body ?done ?stop
  case assign =>
    intro l x W K hK
    unfold encs
    gi_wp2
    exact hK
  case body =>
    rintro l pre x W ⟨⟨hp, hcw, hcr, hfr⟩, hB⟩ _
    gi_wp2
    · rename_i hx
      have hx := (Go.Lib.bytes_beq_iff _ _).1 hx
      exact ⟨KeepsOthers.setCell _ _ _, ⟨rfl, x, hx, World.cell?_setCell_same' _ _ _ (by rw [hcr]; rfl)⟩, hB.setCell (p := ⟨w.heap.size + 1, 0, none⟩) (by simp) _⟩
    · rename_i hd
      have hx := (Go.Lib.bytes_beq_false_iff _ _).1 hd
      exact ⟨KeepsOthers.refl _, KC.refl _, ⟨fun y hy => (List.mem_append.1 hy).elim (hp y) (fun e => by simp at e; subst e; exact hx), hcw, hcr, hfr⟩, hB⟩
  case done =>
    rintro D ys W hD hall ⟨⟨hne, _, hcr, hfr⟩, hB⟩ hK
    gi_wp2
    have hK' := (KeepsOthers.setCell W ⟨w.heap.size + 1, 0, none⟩ (.int .i64 0)).same D _ hK rfl
    refine ⟨by simp, .inl ⟨_, _, rfl, run_takeDeferred hK', ?_⟩⟩
    have hc5 := cell_kept (World.cell?_setCell_same' W ⟨w.heap.size + 1, 0, none⟩ (.int .i64 0) (by rw [hcr]; rfl)) (grownBy_putObj' _ D (.deferred none)) (fun r e => by cases e; exact ⟨_, hK', rfl⟩)
    have hn : findOf s = 0 := findOf_no (fun y => hne y (hall y))
    refine ⟨.int .i64 0, ?_, by rw [hn], (hB.setCell (p := ⟨w.heap.size + 1, 0, none⟩) (by simp) _).trans (belowK_b (w := w) (Nat.le_refl _) _ D _ _ (by simp at hD; omega) hK' rfl rfl)⟩
    simp [results, Tryd.f10, go_sem, hc5]
  case stop =>
    rintro D c pre W hD hpre ⟨⟨rfl, y, hy, hcr⟩, hB⟩ hK
    gi_wp2
    refine ⟨by simp, .inl ⟨_, _, rfl, run_takeDeferred hK, ?_⟩⟩
    have hc5 := cell_kept hcr (grownBy_putObj' _ D (.deferred none)) (fun r e => by cases e; exact ⟨_, hK, rfl⟩)
    have hn : findOf s = (y.val : Int) + 1 := findOf_yes hy
    refine ⟨.int .i64 ((y.val : Int) + 1), ?_, by rw [hn], hB.trans (belowK_b (w := w) (Nat.le_refl _) W D _ _ (by simp at hD; omega) hK rfl rfl)⟩
    simp [results, Tryd.f10, go_sem, hc5]

end Go.Proofs.YtidceolaemikgaaDoor
