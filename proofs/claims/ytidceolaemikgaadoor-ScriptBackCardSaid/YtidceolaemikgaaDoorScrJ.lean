/- A word's bytes, a line's deed: the program's. -/
import Derived.Test.YtidceolaemikgaaDoorScrI
namespace Go.Proofs.YtidceolaemikgaaDoor
open Go.RowKit Go.Deep Go.Shelf
set_option linter.unusedVariables false
attribute [local go_sem] Oper.semAt_some
theorem sl_nil (w : World) : Sl w (.slice none 0 0) [] := ⟨none, 0, rfl, Nat.le_refl _, fun h => absurd h (by decide)⟩
def UnhexP (l : List UInt8) (w : World) (e : Ending) (w' : World) : Prop := ∃ v, e = .returned (.tuple #[v, .bool (dataL l).isSome]) ∧ Sl w' v (Lib.byteCells ((dataL l).getD [])) ∧ Chg w w' [] ∧ Fresh w v ∧ Ty8 w' v
set_option maxRecDepth 100000 in
theorem unhex_odd_calls (l : List UInt8) (n : Nat) (w : World) (hl : n ≤ 500000) (hn : l.length = 2 * n + 1) (h45 : l ≠ [45]) :
    Calls Tryd.prog 47 #[strV l] w (UnhexP l w) := by
  have HX := hide (unhex_odd l (by omega))
  have H45 := hide h45
  have hx0 : (l == [45]) = false := by simpa using h45
  have hsz : (⟨l.toArray⟩ : ByteArray).size = 2 * n + 1 := by rw [← hn]; rfl
  clear h45
  unfold strV
  go_enter Tryd.func47, Tryd.ntmps47
  go_wp2
  go_ret2
  unfold UnhexP dataL
  rw [if_neg H45.out, HX.out]
  exact ⟨_, rfl, sl_nil _, Chg.refl _ _, fresh_nil _, ty8_nil _⟩
set_option maxRecDepth 100000 in
theorem unhex_dash_calls (w : World) : Calls Tryd.prog 47 #[strV [45]] w (UnhexP [45] w) := by
  unfold strV
  go_enter Tryd.func47, Tryd.ntmps47
  go_wp2
  go_ret2
  exact ⟨_, rfl, sl_nil _, Chg.refl _ _, fresh_nil _, ty8_nil _⟩
theorem unhex_calls (l : List UInt8) (w : World) (hl : l.length ≤ 1000000) : Calls Tryd.prog 47 #[strV l] w (UnhexP l w) := by
  by_cases h45 : l = [45]
  · subst h45; exact unhex_dash_calls w
  · by_cases h2 : l.length % 2 = 0
    · refine (unhex_main l (l.length / 2) w (by omega) (by omega) h45).mono ?_
      rintro e w' ⟨v, rfl, h1, h3, h4, h5⟩
      unfold UnhexP dataL
      rw [if_neg h45]
      exact ⟨v, rfl, h1, h3, h4, h5⟩
    · exact unhex_odd_calls l (l.length / 2) w (by omega) (by omega) h45
def DeedP (ws : List (List UInt8)) (w : World) (e : Ending) (w' : World) : Prop :=
  ∃ f A n c, e = .returned (.tuple #[.agg #[.bool f, .slice A n c], .bool (deedL ws).isSome]) ∧ (∀ x, deedL ws = some x → f = x.1 ∧ Sl w' (.slice A n c) (Lib.byteCells x.2) ∧ Fresh w (.slice A n c) ∧ Ty8 w' (.slice A n c)) ∧ Chg w w' []
theorem strs_open {w : World} {v : Value} {ws : List (List UInt8)} (hs : Sl w v (strs ws)) : ∃ A c, v = .slice A ws.length c ∧ (0 < ws.length → ∃ b off, A = some ⟨b, off, none⟩ ∧ b < w.heap.size ∧ ∀ k, k < ws.length → w.cell? ⟨b, off + k, none⟩ = some (strV (ws.getD k []))) := by
  obtain ⟨A, c, rfl, hc, hx⟩ := hs
  rw [strs_len] at *
  refine ⟨A, c, rfl, fun h => ?_⟩
  obtain ⟨b, off, rfl, h2⟩ := hx h
  have h3 : ∀ k, k < ws.length → w.cell? ⟨b, off + k, none⟩ = some (strV (ws.getD k [])) := fun k hk => (h2 k hk).trans (strs_at ws k hk)
  exact ⟨b, off, rfl, World.block_lt_of_cell? w _ (h3 0 h), h3⟩
set_option maxRecDepth 100000 in
theorem deed_reset (v : Value) (w : World) (hs : Sl w v (strs [resetL])) : Calls Tryd.prog 34 #[v] w (DeedP [resetL] w) := by
  obtain ⟨A, c, rfl, hx⟩ := strs_open hs
  obtain ⟨b, off, rfl, hlt, h2⟩ := hx (by decide)
  have h20 := h2 0 (by decide)
  simp only [List.getD_cons_zero, strV, resetL, Nat.add_zero, List.length_cons, List.length_nil, Nat.zero_add] at *
  clear h2 hx hs
  go_enter Tryd.func34, Tryd.ntmps34
  go_wp2
  refine bodyPost_ret (v := .tuple #[.agg #[.bool false, .slice none 0 0], .bool true]) (by simp [results, Tryd.f34, go_sem]) rfl ?_
  refine ⟨_, _, _, _, rfl, ?_, (Chg.refl _ _).alloc _⟩
  intro x hx
  have e : deedL [[114, 101, 115, 101, 116]] = some (false, []) := by decide
  rw [e] at hx
  injection hx with hx
  subst hx
  exact ⟨rfl, sl_nil _, fresh_nil _, ty8_nil _⟩
set_option maxRecDepth 100000 in
theorem deed_one (a : List UInt8) (v : Value) (w : World) (ha : a ≠ resetL) (hs : Sl w v (strs [a])) : Calls Tryd.prog 34 #[v] w (DeedP [a] w) := by
  obtain ⟨A, c, rfl, hx⟩ := strs_open hs
  obtain ⟨b, off, rfl, hlt, h2⟩ := hx (by simp)
  have h20 := h2 0 (by simp)
  have e : deedL [a] = none := by simp [deedL, ha]
  have HE := hide e
  have hx0 : (a == [114, 101, 115, 101, 116]) = false := beq_eq_false_iff_ne.2 ha
  simp only [List.getD_cons_zero, strV, Nat.add_zero, List.length_cons, List.length_nil, Nat.zero_add] at *
  clear h2 hx hs ha e
  go_enter Tryd.func34, Tryd.ntmps34
  go_wp2
  refine bodyPost_ret (v := .tuple #[.agg #[.bool false, .slice none 0 0], .bool false]) (by simp [results, Tryd.f34, go_sem]) rfl ?_
  refine ⟨_, _, _, _, by rw [HE.out]; rfl, ?_, (Chg.refl _ _).alloc _⟩
  rw [HE.out]
  intro x hx
  cases hx
set_option maxRecDepth 100000 in
theorem deed_two (a d : List UInt8) (v : Value) (w : World) (ha : a ≠ feedL) (hs : Sl w v (strs [a, d])) : Calls Tryd.prog 34 #[v] w (DeedP [a, d] w) := by
  obtain ⟨A, c, rfl, hx⟩ := strs_open hs
  obtain ⟨b, off, rfl, hlt, h2⟩ := hx (by simp)
  have h20 := h2 0 (by simp)
  have e : deedL [a, d] = none := by simp [deedL, ha]
  have HE := hide e
  have hx0 : (a == [102, 101, 101, 100]) = false := beq_eq_false_iff_ne.2 ha
  simp only [List.getD_cons_zero, strV, Nat.add_zero, List.length_cons, List.length_nil, Nat.zero_add] at *
  clear h2 hx hs ha e
  go_enter Tryd.func34, Tryd.ntmps34
  go_wp2
  refine bodyPost_ret (v := .tuple #[.agg #[.bool false, .slice none 0 0], .bool false]) (by simp [results, Tryd.f34, go_sem]) rfl ?_
  refine ⟨_, _, _, _, by rw [HE.out]; rfl, ?_, (Chg.refl _ _).alloc _⟩
  rw [HE.out]
  intro x hx
  cases hx
set_option maxRecDepth 100000 in
theorem deed_feed (d : List UInt8) (v : Value) (w : World) (hl : d.length ≤ 1000000) (hs : Sl w v (strs [feedL, d])) : Calls Tryd.prog 34 #[v] w (DeedP [feedL, d] w) := by
  obtain ⟨A, c, rfl, hx⟩ := strs_open hs
  obtain ⟨b, off, rfl, hlt, h2⟩ := hx (by simp)
  have h20 := h2 0 (by simp)
  have h21 := h2 1 (by simp)
  have e : deedL [feedL, d] = (dataL d).map fun d => (true, d) := by simp [deedL]
  have HE := hide e
  simp only [List.getD_cons_zero, List.getD_cons_succ, strV, feedL, Nat.add_zero, List.length_cons, List.length_nil, Nat.zero_add] at *
  clear h2 hx hs e
  go_enter Tryd.func34, Tryd.ntmps34
  go_wp2_with (go_at_call 47; refine (unhex_calls d _ hl).mono ?_)
  rintro e w1 ⟨u, rfl, hu, hc, hf, ht⟩
  have hB := (Blk.new w 49 [.bool false, .slice none 0 0]).chg hc (by simp)
  have c0 := hB.cell' (i := 0) rfl
  have c1 := hB.cell' (i := 1) rfl
  have f0 := hB.frozen 0
  have f1 := hB.frozen 1
  have hlq := hB.lt
  have HB := hide hB
  have HU := hide hu
  have HC := hide hc
  have HF := hide hf
  have HT := hide ht
  obtain ⟨A2, c2, rfl, _, _⟩ := hu
  generalize hok : (dataL d).isSome = ok at *
  have HK := hide hok
  generalize (Lib.byteCells ((dataL d).getD [])).length = n2 at *
  clear hB hc hok hf ht
  go_wp2
  have hB2 := (HB.out.set_ 0 (.bool true)).set_ 1 (.slice A2 n2 c2)
  have r0 := hB2.cell' (i := 0) rfl
  have r1 := hB2.cell' (i := 1) rfl
  have h4 : Chg w1 ((w1.setCell ⟨w.heap.size, 0, none⟩ (.bool true)).setCell ⟨w.heap.size, 1, none⟩ (.slice A2 n2 c2)) [w.heap.size] := ((Chg.refl w1 _).setCell _ _ (by simp)).setCell _ _ (by simp)
  generalize (w1.setCell ⟨w.heap.size, 0, none⟩ (.bool true)).setCell ⟨w.heap.size, 1, none⟩ (.slice A2 n2 c2) = w2 at *
  refine bodyPost_ret (v := .tuple #[.agg #[.bool true, .slice A2 n2 c2], .bool ok]) (by simp [results, Tryd.f34, go_sem, r0, r1]) rfl ?_
  refine ⟨_, _, _, _, by rw [HE.out, Option.isSome_map, HK.out], ?_, ?_⟩
  · rw [HE.out]
    intro x hx
    obtain ⟨y, hy, rfl⟩ := Option.map_eq_some_iff.1 hx
    refine ⟨rfl, ?_⟩
    have h := HU.out
    rw [hy] at h
    have hne : ∀ A n c, Value.slice A2 n2 c2 = .slice (some A) n c → w.heap.size < A.block := fun A n c he => by
      have := HF.out A n c he
      rw [size_alloc] at this
      omega
    refine ⟨h.chg h4 fun A n c he => ?_, fun A n c he => ?_, HT.out.chg h4 fun A n c he => ?_⟩
    all_goals have := hne A n c he
    · simp; omega
    · omega
    · simp; omega
  · exact (((Chg.refl w []).alloc _).trans HC.out (by simp)).trans h4 (by simp)
set_option maxRecDepth 100000 in
theorem deed_far (ws : List (List UInt8)) (v : Value) (w : World) (h1 : ws.length ≠ 1) (h2 : ws.length ≠ 2) (hs : Sl w v (strs ws)) : Calls Tryd.prog 34 #[v] w (DeedP ws w) := by
  obtain ⟨A, c, rfl, hx⟩ := strs_open hs
  have e : deedL ws = none := by
    match ws, h1, h2 with
    | [], _, _ => rfl
    | [_], h, _ => simp at h
    | [_, _], _, h => simp at h
    | _ :: _ :: _ :: _, _, _ => rfl
  have HE := hide e
  have hx1 : ((ws.length : Int) == 1) = false := by rw [beq_eq_false_iff_ne]; omega
  have hx2 : ((ws.length : Int) == 2) = false := by rw [beq_eq_false_iff_ne]; omega
  clear hx hs h1 h2 e
  go_enter Tryd.func34, Tryd.ntmps34
  go_wp2
  refine bodyPost_ret (v := .tuple #[.agg #[.bool false, .slice none 0 0], .bool false]) (by simp [results, Tryd.f34, go_sem]) rfl ?_
  refine ⟨_, _, _, _, by rw [HE.out]; rfl, ?_, (Chg.refl _ _).alloc _⟩
  rw [HE.out]
  intro x hx
  cases hx
theorem deed_calls (ws : List (List UInt8)) (v : Value) (w : World) (hl : ∀ x ∈ ws, x.length ≤ 1000000) (hs : Sl w v (strs ws)) : Calls Tryd.prog 34 #[v] w (DeedP ws w) := by
  by_cases h1 : ws.length = 1
  · obtain ⟨a, rfl⟩ := List.length_eq_one_iff.1 h1
    by_cases ha : a = resetL
    · subst ha; exact deed_reset v w hs
    · exact deed_one a v w ha hs
  · by_cases h2 : ws.length = 2
    · obtain ⟨a, d, rfl⟩ : ∃ a d, ws = [a, d] := by
        match ws, h2 with
        | [a, d], _ => exact ⟨a, d, rfl⟩
      by_cases ha : a = feedL
      · subst ha; exact deed_feed d v w (hl d (by simp)) hs
      · exact deed_two a d v w ha hs
    · exact deed_far ws v w h1 h2 hs
end Go.Proofs.YtidceolaemikgaaDoor
