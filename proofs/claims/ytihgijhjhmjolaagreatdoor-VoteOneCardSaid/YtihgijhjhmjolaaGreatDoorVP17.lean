/- Texts of this claim, side by side: PanelC, PanelD. -/
import Derived.Test.YtihgijhjhmjolaaGreatDoorVP16
import Derived.Shelf.RegionOpenPlain
/- Three answers without one of them. -/
namespace Go.Proofs.YtihgijhjhmjolaaGreatDoor.Xi
open Go Go.RowKit Go.Deep
set_option linter.unusedVariables false
theorem chg_sets {w : World} (g : Nat) : ∀ (vs : List Value) (o : Nat) (w' : World), Chg w w' [g] → Chg w (w'.setCells g o vs) [g]
 | [], _, _, h => h
 | v :: vs, o, w', h => chg_sets g vs (o + 1) _ (h.setCell ⟨g, o, none⟩ v (.inl (by simp)))
theorem take_get {cur l : List Value} {n k : Nat} {v : Value} (h : cur.take n = l) (hv : l[k]? = some v) : cur[k]? = some v := by
 subst h
 rw [List.getElem?_take] at hv
 split at hv
 · exact hv
 · cases hv
theorem in_list {l : List Value} {n : Nat} (h : l.length = n) {k : Nat} (hk : k < n) : ∃ v, l[k]? = some v := ⟨l[k]'(by omega), List.getElem?_eq_getElem (by omega)⟩
theorem sets_in {w : World} {g o : Nat} {vs : List Value} (h : ∀ j, j < vs.length → (w.cell? ⟨g, o + j, none⟩).isSome = true) {j : Nat} (hj : j < vs.length) : (w.setCells g o vs).cell? ⟨g, o + j, none⟩ = vs[j]? :=
 (World.cell?_setCells_in g vs o w h j hj).trans (List.getElem?_eq_getElem hj).symm
theorem sets_out {w : World} {g o : Nat} {vs : List Value} {k : Nat} (h : k < o ∨ o + vs.length ≤ k) : (w.setCells g o vs).cell? ⟨g, k, none⟩ = w.cell? ⟨g, k, none⟩ :=
 World.cell?_setCells_out g vs o w ⟨g, k, none⟩ (fun _ _ => h)
def delPost (g cap : Nat) (A B : List Value) (w : World) (e : Ending) (w2 : World) : Prop :=
 e = .returned (.slice (some ⟨g, 0, none⟩) 2 cap) ∧ Chg w w2 [g] ∧ (∀ t, t < 9 → w2.cell? ⟨g, t, none⟩ = A[t]?) ∧ (∀ t, t < 9 → w2.cell? ⟨g, 9 + t, none⟩ = B[t]?)
theorem zeroA_one : ∀ u ∈ zeroA, u.oneCell' = true := by
 intro u hu
 simp only [zeroA, List.mem_cons, List.not_mem_nil, or_false] at hu
 rcases hu with rfl | rfl | rfl | rfl | rfl | rfl | rfl | rfl | rfl <;> rfl
set_option maxRecDepth 100000 in
set_option maxHeartbeats 4000000 in
theorem delete0_calls (g cap : Nat) (X Y Z cur : List Value) (w : World) (hb : Blk w g 84 cur) (hcur : cur.take 27 = X ++ (Y ++ Z)) (hX : X.length = 9) (hY : Y.length = 9) (hZ : Z.length = 9) (hy : ∀ u ∈ Y, u.oneCell' = true) (hz : ∀ u ∈ Z, u.oneCell' = true) (hcap : 3 ≤ cap) (hm : cap ≤ maxLen) :
 Calls Tryz.prog 83 #[.slice (some ⟨g, 0, none⟩) 3 cap, .int .i64 0, .int .i64 1] w fun e w2 => delPost g cap Y Z w e w2 := by
 have hc : ∀ k, k < 27 → ∃ v, w.cell? ⟨g, k, none⟩ = some v ∧ (X ++ (Y ++ Z))[k]? = some v := fun k hk => by
  obtain ⟨v, hv⟩ := in_list (l := X ++ (Y ++ Z)) (n := 27) (by simp [hX, hY, hZ]) hk
  exact ⟨v, hb.cell' (take_get hcur hv), hv⟩
 have hs : ∀ k, k < 27 → (w.cell? ⟨g, k, none⟩).isSome = true := fun k hk => by obtain ⟨v, hv, _⟩ := hc k hk; rw [hv]; rfl
 obtain ⟨news, hnews⟩ : ∃ news : List Value, news = Y ++ Z := ⟨_, rfl⟩
 have hlen : news.length = 18 := by rw [hnews]; simp [hY, hZ]
 have hget : ∀ t u, news[t]? = some u → w.cell? ⟨g, 9 + t, none⟩ = some u := fun t u hu => by
  have ht : t < 18 := by have := (List.getElem?_eq_some_iff.1 hu).1; omega
  obtain ⟨v, hv, hx⟩ := hc (9 + t) (by omega)
  rw [hv]
  rw [hnews] at hu
  first
   | (rw [List.getElem?_append_right (by omega), hX, show 9 + t - 9 = 0 + t by omega] at hx; first | (rw [List.getElem?_append_right (by omega), hY, show 0 + t - 9 = t by omega, hu] at hx; exact hx.symm) | (rw [show 0 + t = t by omega, hu] at hx; exact hx.symm))
   | (simp at hu)
 have hone : ∀ u ∈ news, u.oneCell' = true := by rw [hnews]; intro u hu; first | (rcases List.mem_append.1 hu with h | h; exact hy u h; exact hz u h) | exact hz u hu | (simp at hu)
 obtain ⟨AD, hA, hsrc⟩ : ∃ A : Addr, (if cap = 1 then some (⟨g, 0, none⟩ : Addr) else some ⟨g, 9, none⟩) = some A ∧ (∀ t u, news[t]? = some u → w.drew.cell? (A.add t) = some u) := by
  by_cases h : cap = 1
  · refine ⟨⟨g, 0, none⟩, by simp [h], fun t u hu => ?_⟩
    have h0 : news.length = 0 := by omega
    rw [List.length_eq_zero_iff.1 h0] at hu
    simp at hu
  · exact ⟨⟨g, 9, none⟩, by simp [h], fun t u hu => by rw [Addr.add_lit]; exact hget t u hu⟩
 obtain ⟨W1, hW1⟩ : ∃ W1, W1 = w.drew.setCells g 0 news := ⟨_, rfl⟩
 have hs1 : ∀ k, k < 27 → (W1.cell? ⟨g, k, none⟩).isSome = true := fun k hk => by
  rw [hW1]
  by_cases h : 0 ≤ k ∧ k < 0 + news.length
  · have := sets_in (w := w.drew) (g := g) (o := 0) (vs := news) (fun j hj => hs _ (by omega)) (j := k - 0) (by omega)
    rw [show 0 + (k - 0) = k by omega] at this
    rw [this, List.getElem?_eq_getElem (by omega)]
    rfl
  · rw [sets_out (by omega)]
    exact hs k hk
 have hf1 : ∀ k, W1.frozen? ⟨g, k, none⟩ = false := fun k => by rw [hW1, World.frozen?_setCells]; exact hb.frozen k
 have hcl : ∀ ty c, (Builtin.clear_ #[136] ty #[.slice (some ⟨g, 18, none⟩) 1 c]).run Tryz.prog W1 = .ok (.tuple #[]) (W1.setCells g 18 zeroA) :=
  fun ty c => run_clear_one W1 _ _ ty _ zeroA Tryz.underlying136 Tryz.zeroValue84 rfl (by decide) zeroA_one g 18 c (fun t ht => hs1 _ (by simp [zeroA] at ht; omega)) (fun t ht => hf1 _)
 have hp : delPost g cap Y Z w (.returned (.slice (some ⟨g, 0, none⟩) 2 cap)) (W1.setCells g 18 zeroA) := by
  refine ⟨rfl, chg_sets g _ _ _ (by rw [hW1]; exact chg_sets g _ _ _ (Chg.refl w [g]).drew), fun t ht => ?_, fun t ht => ?_⟩
  · rw [sets_out (by simp [zeroA]; omega), hW1]
    rw [show t = 0 + t by omega, sets_in (w := w.drew) (g := g) (o := 0) (vs := news) (fun j hj => by rw [Nat.zero_add]; exact hs j (by omega)) (by omega), hnews, Nat.zero_add, List.getElem?_append_left (by omega)]
  · rw [sets_out (by simp [zeroA]; omega), hW1]
    rw [show 9 + t = 0 + (9 + t) by omega, sets_in (w := w.drew) (g := g) (o := 0) (vs := news) (fun j hj => by rw [Nat.zero_add]; exact hs j (by omega)) (by omega), hnews, List.getElem?_append_right (by omega), hY, show 9 + t - 9 = t by omega]
 have hnn := hide hnews
 have s1 := hide (show news.length = 2 * 9 by omega)
 have s2 := hide hone
 have s3 := hide hsrc
 have s4 := hide (show ∀ t, t < news.length → (w.drew.cell? ⟨g, 0 + t, none⟩).isSome = true ∧ w.drew.frozen? ⟨g, 0 + t, none⟩ = false from fun t ht => ⟨hs _ (by omega), hb.frozen _⟩)
 have hW := hide hW1
 have hp' := hide hp
 clear hp hcur hc hs hget hone hsrc hW1 hs1 hf1 hb hlen hX hY hZ hy hz hnews
 have HI := hide (show Tryz.prog.info? 84 = some Tryz.t84 by kernel_rfl)
 have HZ1 := hide (show Tryz.t84.size = 9 by kernel_rfl)
 have hic : (0 : Int) ≤ (cap : Int) := by omega
 have hjc : (1 : Int) ≤ (cap : Int) := by omega
 have mixed : Tryz.prog.follows .mixedOrders = true := by kernel_rfl
 go_enter Tryz.func83, Tryz.ntmps83
 go_wp2_with fail
 go_region_law_o (refine step_append_room rfl (.tmp 22) (.tmp 25) 136 rfl 84 Tryz.t84 9 Tryz.underlying136 HI.out HZ1.out g 0 0 cap (by simp [Act.eval, Act.put]) AD 2 (cap - 1) news (by simp [Act.eval, Act.put]) s1.out s3.out s2.out (by omega) (fun t ht => by have := s4.out t ht; simpa using this) ?_; rw [show 0 + 0 * 9 = 0 from rfl, ← hW.out])
 go_wp2
 go_ret
 exact hp'.out
set_option maxRecDepth 100000 in
set_option maxHeartbeats 4000000 in
theorem delete1_calls (g cap : Nat) (X Y Z cur : List Value) (w : World) (hb : Blk w g 84 cur) (hcur : cur.take 27 = X ++ (Y ++ Z)) (hX : X.length = 9) (hY : Y.length = 9) (hZ : Z.length = 9) (hy : ∀ u ∈ Y, u.oneCell' = true) (hz : ∀ u ∈ Z, u.oneCell' = true) (hcap : 3 ≤ cap) (hm : cap ≤ maxLen) :
 Calls Tryz.prog 83 #[.slice (some ⟨g, 0, none⟩) 3 cap, .int .i64 1, .int .i64 2] w fun e w2 => delPost g cap X Z w e w2 := by
 have hc : ∀ k, k < 27 → ∃ v, w.cell? ⟨g, k, none⟩ = some v ∧ (X ++ (Y ++ Z))[k]? = some v := fun k hk => by
  obtain ⟨v, hv⟩ := in_list (l := X ++ (Y ++ Z)) (n := 27) (by simp [hX, hY, hZ]) hk
  exact ⟨v, hb.cell' (take_get hcur hv), hv⟩
 have hs : ∀ k, k < 27 → (w.cell? ⟨g, k, none⟩).isSome = true := fun k hk => by obtain ⟨v, hv, _⟩ := hc k hk; rw [hv]; rfl
 obtain ⟨news, hnews⟩ : ∃ news : List Value, news = Z := ⟨_, rfl⟩
 have hlen : news.length = 9 := by rw [hnews]; exact hZ
 have hget : ∀ t u, news[t]? = some u → w.cell? ⟨g, 18 + t, none⟩ = some u := fun t u hu => by
  have ht : t < 9 := by have := (List.getElem?_eq_some_iff.1 hu).1; omega
  obtain ⟨v, hv, hx⟩ := hc (18 + t) (by omega)
  rw [hv]
  rw [hnews] at hu
  first
   | (rw [List.getElem?_append_right (by omega), hX, show 18 + t - 9 = 9 + t by omega] at hx; first | (rw [List.getElem?_append_right (by omega), hY, show 9 + t - 9 = t by omega, hu] at hx; exact hx.symm) | (rw [show 9 + t = t by omega, hu] at hx; exact hx.symm))
   | (simp at hu)
 have hone : ∀ u ∈ news, u.oneCell' = true := by rw [hnews]; intro u hu; first | (rcases List.mem_append.1 hu with h | h; exact hy u h; exact hz u h) | exact hz u hu | (simp at hu)
 obtain ⟨AD, hA, hsrc⟩ : ∃ A : Addr, (if cap = 2 then some (⟨g, 0, none⟩ : Addr) else some ⟨g, 18, none⟩) = some A ∧ (∀ t u, news[t]? = some u → w.drew.cell? (A.add t) = some u) := by
  by_cases h : cap = 2
  · refine ⟨⟨g, 0, none⟩, by simp [h], fun t u hu => ?_⟩
    have h0 : news.length = 0 := by omega
    rw [List.length_eq_zero_iff.1 h0] at hu
    simp at hu
  · exact ⟨⟨g, 18, none⟩, by simp [h], fun t u hu => by rw [Addr.add_lit]; exact hget t u hu⟩
 obtain ⟨W1, hW1⟩ : ∃ W1, W1 = w.drew.setCells g 9 news := ⟨_, rfl⟩
 have hs1 : ∀ k, k < 27 → (W1.cell? ⟨g, k, none⟩).isSome = true := fun k hk => by
  rw [hW1]
  by_cases h : 9 ≤ k ∧ k < 9 + news.length
  · have := sets_in (w := w.drew) (g := g) (o := 9) (vs := news) (fun j hj => hs _ (by omega)) (j := k - 9) (by omega)
    rw [show 9 + (k - 9) = k by omega] at this
    rw [this, List.getElem?_eq_getElem (by omega)]
    rfl
  · rw [sets_out (by omega)]
    exact hs k hk
 have hf1 : ∀ k, W1.frozen? ⟨g, k, none⟩ = false := fun k => by rw [hW1, World.frozen?_setCells]; exact hb.frozen k
 have hcl : ∀ ty c, (Builtin.clear_ #[136] ty #[.slice (some AD) 1 c]).run Tryz.prog W1 = .ok (.tuple #[]) (W1.setCells g 18 zeroA) :=
  fun ty c => by rw [show AD = ⟨g, 18, none⟩ by rw [if_neg (by omega)] at hA; injection hA with hA; exact hA.symm]; exact run_clear_one W1 _ _ ty _ zeroA Tryz.underlying136 Tryz.zeroValue84 rfl (by decide) zeroA_one g 18 c (fun t ht => hs1 _ (by simp [zeroA] at ht; omega)) (fun t ht => hf1 _)
 have hp : delPost g cap X Z w (.returned (.slice (some ⟨g, 0, none⟩) 2 cap)) (W1.setCells g 18 zeroA) := by
  refine ⟨rfl, chg_sets g _ _ _ (by rw [hW1]; exact chg_sets g _ _ _ (Chg.refl w [g]).drew), fun t ht => ?_, fun t ht => ?_⟩
  · rw [sets_out (by simp [zeroA]; omega), hW1]
    rw [sets_out (by omega)]
    obtain ⟨v, hv, hx⟩ := hc t (by omega)
    rw [List.getElem?_append_left (by omega)] at hx
    exact hv.trans hx.symm
  · rw [sets_out (by simp [zeroA]; omega), hW1]
    rw [sets_in (w := w.drew) (g := g) (o := 9) (vs := news) (fun j hj => hs _ (by omega)) (by omega), hnews]
 have hnn := hide hnews
 have s1 := hide (show news.length = 1 * 9 by omega)
 have s2 := hide hone
 have s3 := hide hsrc
 have s4 := hide (show ∀ t, t < news.length → (w.drew.cell? ⟨g, 9 + t, none⟩).isSome = true ∧ w.drew.frozen? ⟨g, 9 + t, none⟩ = false from fun t ht => ⟨hs _ (by omega), hb.frozen _⟩)
 have hW := hide hW1
 have hp' := hide hp
 clear hp hcur hc hs hget hone hsrc hW1 hs1 hf1 hb hlen hX hY hZ hy hz hnews
 have HI := hide (show Tryz.prog.info? 84 = some Tryz.t84 by kernel_rfl)
 have HZ1 := hide (show Tryz.t84.size = 9 by kernel_rfl)
 have hic : (1 : Int) ≤ (cap : Int) := by omega
 have hjc : (2 : Int) ≤ (cap : Int) := by omega
 have mixed : Tryz.prog.follows .mixedOrders = true := by kernel_rfl
 go_enter Tryz.func83, Tryz.ntmps83
 go_wp2_with fail
 go_region_law_o (refine step_append_room rfl (.tmp 22) (.tmp 25) 136 rfl 84 Tryz.t84 9 Tryz.underlying136 HI.out HZ1.out g 0 1 cap (by simp [Act.eval, Act.put]) AD 1 (cap - 2) news (by simp [Act.eval, Act.put]) s1.out s3.out s2.out (by omega) (fun t ht => by have := s4.out t ht; simpa using this) ?_; rw [show 0 + 1 * 9 = 9 from rfl, ← hW.out])
 go_wp2
 go_ret
 exact hp'.out
set_option maxRecDepth 100000 in
set_option maxHeartbeats 4000000 in
theorem delete2_calls (g cap : Nat) (X Y Z cur : List Value) (w : World) (hb : Blk w g 84 cur) (hcur : cur.take 27 = X ++ (Y ++ Z)) (hX : X.length = 9) (hY : Y.length = 9) (hZ : Z.length = 9) (hy : ∀ u ∈ Y, u.oneCell' = true) (hz : ∀ u ∈ Z, u.oneCell' = true) (hcap : 3 ≤ cap) (hm : cap ≤ maxLen) :
 Calls Tryz.prog 83 #[.slice (some ⟨g, 0, none⟩) 3 cap, .int .i64 2, .int .i64 3] w fun e w2 => delPost g cap X Y w e w2 := by
 have hc : ∀ k, k < 27 → ∃ v, w.cell? ⟨g, k, none⟩ = some v ∧ (X ++ (Y ++ Z))[k]? = some v := fun k hk => by
  obtain ⟨v, hv⟩ := in_list (l := X ++ (Y ++ Z)) (n := 27) (by simp [hX, hY, hZ]) hk
  exact ⟨v, hb.cell' (take_get hcur hv), hv⟩
 have hs : ∀ k, k < 27 → (w.cell? ⟨g, k, none⟩).isSome = true := fun k hk => by obtain ⟨v, hv, _⟩ := hc k hk; rw [hv]; rfl
 obtain ⟨news, hnews⟩ : ∃ news : List Value, news = [] := ⟨_, rfl⟩
 have hlen : news.length = 0 := by rw [hnews]; rfl
 have hget : ∀ t u, news[t]? = some u → w.cell? ⟨g, 27 + t, none⟩ = some u := fun t u hu => by
  have ht : t < 0 := by have := (List.getElem?_eq_some_iff.1 hu).1; omega
  obtain ⟨v, hv, hx⟩ := hc (27 + t) (by omega)
  rw [hv]
  rw [hnews] at hu
  first
   | (rw [List.getElem?_append_right (by omega), hX, show 27 + t - 9 = 18 + t by omega] at hx; first | (rw [List.getElem?_append_right (by omega), hY, show 18 + t - 9 = t by omega, hu] at hx; exact hx.symm) | (rw [show 18 + t = t by omega, hu] at hx; exact hx.symm))
   | (simp at hu)
 have hone : ∀ u ∈ news, u.oneCell' = true := by rw [hnews]; intro u hu; first | (rcases List.mem_append.1 hu with h | h; exact hy u h; exact hz u h) | exact hz u hu | (simp at hu)
 obtain ⟨AD, hA, hsrc⟩ : ∃ A : Addr, (if cap = 3 then some (⟨g, 0, none⟩ : Addr) else some ⟨g, 27, none⟩) = some A ∧ (∀ t u, news[t]? = some u → w.drew.cell? (A.add t) = some u) := by
  by_cases h : cap = 3
  · refine ⟨⟨g, 0, none⟩, by simp [h], fun t u hu => ?_⟩
    have h0 : news.length = 0 := by omega
    rw [List.length_eq_zero_iff.1 h0] at hu
    simp at hu
  · exact ⟨⟨g, 27, none⟩, by simp [h], fun t u hu => by rw [Addr.add_lit]; exact hget t u hu⟩
 obtain ⟨W1, hW1⟩ : ∃ W1, W1 = w.drew.setCells g 18 news := ⟨_, rfl⟩
 have hs1 : ∀ k, k < 27 → (W1.cell? ⟨g, k, none⟩).isSome = true := fun k hk => by
  rw [hW1]
  by_cases h : 18 ≤ k ∧ k < 18 + news.length
  · have := sets_in (w := w.drew) (g := g) (o := 18) (vs := news) (fun j hj => hs _ (by omega)) (j := k - 18) (by omega)
    rw [show 18 + (k - 18) = k by omega] at this
    rw [this, List.getElem?_eq_getElem (by omega)]
    rfl
  · rw [sets_out (by omega)]
    exact hs k hk
 have hf1 : ∀ k, W1.frozen? ⟨g, k, none⟩ = false := fun k => by rw [hW1, World.frozen?_setCells]; exact hb.frozen k
 have hcl : ∀ ty c, (Builtin.clear_ #[136] ty #[.slice (some ⟨g, 18, none⟩) 1 c]).run Tryz.prog W1 = .ok (.tuple #[]) (W1.setCells g 18 zeroA) :=
  fun ty c => run_clear_one W1 _ _ ty _ zeroA Tryz.underlying136 Tryz.zeroValue84 rfl (by decide) zeroA_one g 18 c (fun t ht => hs1 _ (by simp [zeroA] at ht; omega)) (fun t ht => hf1 _)
 have hp : delPost g cap X Y w (.returned (.slice (some ⟨g, 0, none⟩) 2 cap)) (W1.setCells g 18 zeroA) := by
  refine ⟨rfl, chg_sets g _ _ _ (by rw [hW1]; exact chg_sets g _ _ _ (Chg.refl w [g]).drew), fun t ht => ?_, fun t ht => ?_⟩
  · rw [sets_out (by simp [zeroA]; omega), hW1]
    rw [sets_out (by omega)]
    obtain ⟨v, hv, hx⟩ := hc t (by omega)
    rw [List.getElem?_append_left (by omega)] at hx
    exact hv.trans hx.symm
  · rw [sets_out (by simp [zeroA]; omega), hW1]
    rw [sets_out (by omega)]
    obtain ⟨v, hv, hx⟩ := hc (9 + t) (by omega)
    rw [List.getElem?_append_right (by omega), List.getElem?_append_left (by omega), hX, show 9 + t - 9 = t by omega] at hx
    exact hv.trans hx.symm
 have hnn := hide hnews
 have s1 := hide (show news.length = 0 * 9 by omega)
 have s2 := hide hone
 have s3 := hide hsrc
 have s4 := hide (show ∀ t, t < news.length → (w.drew.cell? ⟨g, 18 + t, none⟩).isSome = true ∧ w.drew.frozen? ⟨g, 18 + t, none⟩ = false from fun t ht => ⟨hs _ (by omega), hb.frozen _⟩)
 have hW := hide hW1
 have hp' := hide hp
 clear hp hcur hc hs hget hone hsrc hW1 hs1 hf1 hb hlen hX hY hZ hy hz hnews
 have HI := hide (show Tryz.prog.info? 84 = some Tryz.t84 by kernel_rfl)
 have HZ1 := hide (show Tryz.t84.size = 9 by kernel_rfl)
 have hic : (2 : Int) ≤ (cap : Int) := by omega
 have hjc : (3 : Int) ≤ (cap : Int) := by omega
 have mixed : Tryz.prog.follows .mixedOrders = true := by kernel_rfl
 go_enter Tryz.func83, Tryz.ntmps83
 go_wp2_with fail
 go_region_law_o (refine step_append_room rfl (.tmp 22) (.tmp 25) 136 rfl 84 Tryz.t84 9 Tryz.underlying136 HI.out HZ1.out g 0 2 cap (by simp [Act.eval, Act.put]) AD 0 (cap - 3) news (by simp [Act.eval, Act.put]) s1.out s3.out s2.out (by omega) (fun t ht => by have := s4.out t ht; simpa using this) ?_; rw [show 0 + 2 * 9 = 18 from rfl, ← hW.out])
 go_wp2
 go_ret
 exact hp'.out
end Go.Proofs.YtihgijhjhmjolaaGreatDoor.Xi

/- chosen of package vote, at answers. -/
namespace Go.Proofs.YtihgijhjhmjolaaGreatDoor.Xi
open Go Go.RowKit Go.Deep
set_option linter.unusedVariables false
structure An where
 s : St
 t : ByteArray
 e : Int
def An.cells (x : An) : List Value := [.int .i32 x.s.q.a.v, .int .i32 x.s.q.b.v, .int .i32 x.s.q.c.v, .int .i32 x.s.q.d.v, .int .i64 x.s.s, .int .i64 x.s.f, .int .i64 x.s.g, .string x.t, .int .i64 x.e]
def An.eqB (x y : An) : Bool := (((x.s.q.a.v == y.s.q.a.v && x.s.q.b.v == y.s.q.b.v && x.s.q.c.v == y.s.q.c.v && x.s.q.d.v == y.s.q.d.v) && x.s.s == y.s.s && x.s.f == y.s.f && x.s.g == y.s.g) && x.t.toList == y.t.toList && x.e == y.e)
theorem An.one (x : An) : ∀ u ∈ x.cells, u.oneCell' = true := by
 intro u hu
 simp only [An.cells, List.mem_cons, List.not_mem_nil, or_false] at hu
 rcases hu with rfl | rfl | rfl | rfl | rfl | rfl | rfl | rfl | rfl <;> rfl
theorem An.eqB_true {x y : An} : x.eqB y = true ↔ x = y := by
 obtain ⟨⟨⟨a, b, c, d⟩, s, f, g⟩, t, e⟩ := x
 obtain ⟨⟨⟨a', b', c', d'⟩, s', f', g'⟩, t', e'⟩ := y
 unfold An.eqB
 simp only [Bool.and_eq_true, beq_iff_eq, An.mk.injEq, St.mk.injEq, Q4.mk.injEq]
 have ht : (t.toList == t'.toList) = true ↔ t = t' := Go.Lib.bytes_beq_iff t t'
 rw [beq_iff_eq] at ht
 rw [ht]
 constructor
 · rintro ⟨⟨⟨⟨⟨⟨⟨⟨h1, h2⟩, h3⟩, h4⟩, h5⟩, h6⟩, h7⟩, h8⟩, h9⟩
   exact ⟨⟨⟨Wd.ext_ h1, Wd.ext_ h2, Wd.ext_ h3, Wd.ext_ h4⟩, h5, h6, h7⟩, h8, h9⟩
 · rintro ⟨⟨⟨rfl, rfl, rfl, rfl⟩, rfl, rfl, rfl⟩, rfl, rfl⟩
   simp
theorem An.eqB_false {x y : An} : x.eqB y = false ↔ x ≠ y := by
 rw [← Bool.not_eq_true, An.eqB_true]
def l27 (X Y Z : An) : List Value := X.cells ++ (Y.cells ++ Z.cells)
theorem l27_one (X Y Z : An) : ∀ u ∈ l27 X Y Z, u.oneCell' = true := by
 intro u hu
 rcases List.mem_append.1 hu with h | h
 · exact X.one u h
 · rcases List.mem_append.1 h with h | h
   · exact Y.one u h
   · exact Z.one u h
def put9 (w : World) (g o : Nat) (a b c d e f h i j : Value) : World := ((((((((w.setCell ⟨g, o, none⟩ a).setCell ⟨g, o + 1, none⟩ b).setCell ⟨g, o + 2, none⟩ c).setCell ⟨g, o + 3, none⟩ d).setCell ⟨g, o + 4, none⟩ e).setCell ⟨g, o + 5, none⟩ f).setCell ⟨g, o + 6, none⟩ h).setCell ⟨g, o + 7, none⟩ i).setCell ⟨g, o + 8, none⟩ j
theorem put9_chg (w : World) (g o : Nat) (a b c d e f h i j : Value) : Chg w (put9 w g o a b c d e f h i j) [g] :=
 (((((((((Chg.refl w [g]).setCell ⟨g, o, none⟩ a (.inl (by simp))).setCell ⟨g, o + 1, none⟩ b (.inl (by simp))).setCell ⟨g, o + 2, none⟩ c (.inl (by simp))).setCell ⟨g, o + 3, none⟩ d (.inl (by simp))).setCell ⟨g, o + 4, none⟩ e (.inl (by simp))).setCell ⟨g, o + 5, none⟩ f (.inl (by simp))).setCell ⟨g, o + 6, none⟩ h (.inl (by simp))).setCell ⟨g, o + 7, none⟩ i (.inl (by simp))).setCell ⟨g, o + 8, none⟩ j (.inl (by simp))
theorem put9_blk {w : World} {g : Nat} {t : TypeId} {cs : List Value} (k : Blk w g t cs) (o : Nat) (a b c d e f h i j : Value) : Blk (put9 w g o a b c d e f h i j) g t ((((((((((cs.set o a).set (o + 1) b).set (o + 2) c).set (o + 3) d).set (o + 4) e).set (o + 5) f).set (o + 6) h).set (o + 7) i).set (o + 8) j)) :=
 ((((((((k.set_ o a).set_ (o + 1) b).set_ (o + 2) c).set_ (o + 3) d).set_ (o + 4) e).set_ (o + 5) f).set_ (o + 6) h).set_ (o + 7) i).set_ (o + 8) j
def chosenA (X Y Z : An) : Option (An × Int) :=
 bif Y.eqB Z then (bif Y.eqB X then some (X, -1) else some (Y, 0)) else bif X.eqB Z then some (X, 1) else bif X.eqB Y then some (X, 2) else none
def chosenV : Option (An × Int) → Value
 | some (x, n) => .tuple #[.agg #[.int .i32 x.s.q.a.v, .int .i32 x.s.q.b.v, .int .i32 x.s.q.c.v, .int .i32 x.s.q.d.v, .int .i64 x.s.s, .int .i64 x.s.f, .int .i64 x.s.g, .string x.t, .int .i64 x.e], .int .i64 n, .bool true]
 | none => .tuple #[.agg #[.int .i32 0, .int .i32 0, .int .i32 0, .int .i32 0, .int .i64 0, .int .i64 0, .int .i64 0, .string ByteArray.empty, .int .i64 0], .int .i64 (-1), .bool false]
theorem chosen_end {X Y Z r : An} {n : Int} {w w2 : World} {q : Nat} {tmps : Array Value} {df : List Deferred} (hdf : df = []) (hr : Blk w2 (w.heap.size + 1) 84 [.int .i32 0, .int .i32 0, .int .i32 0, .int .i32 0, .int .i64 0, .int .i64 0, .int .i64 0, .string ⟨#[]⟩, .int .i64 0]) (hc : Chg w w2 [])
 (hR : chosenA X Y Z = some (r, n) ∧ tmps.getD 2 undef = .pointer (some ⟨w.heap.size + 1, 0, none⟩) ∧ tmps.getD 3 undef = .int .i64 n ∧ tmps.getD 4 undef = .bool true) :
 bodyPost Tryz.prog Tryz.f43 (fun e w' => e = .returned (chosenV (chosenA X Y Z)) ∧ Chg w w' []) .ret { tmps := tmps, defers := df } (put9 (w2.drewN q) (w.heap.size + 1) 0 (.int .i32 r.s.q.a.v) (.int .i32 r.s.q.b.v) (.int .i32 r.s.q.c.v) (.int .i32 r.s.q.d.v) (.int .i64 r.s.s) (.int .i64 r.s.f) (.int .i64 r.s.g) (.string r.t) (.int .i64 r.e)) := by
 obtain ⟨h1, h2, h3, h4⟩ := hR
 subst hdf
 have kf := put9_blk (hr.drewN q) 0 (.int .i32 r.s.q.a.v) (.int .i32 r.s.q.b.v) (.int .i32 r.s.q.c.v) (.int .i32 r.s.q.d.v) (.int .i64 r.s.s) (.int .i64 r.s.f) (.int .i64 r.s.g) (.string r.t) (.int .i64 r.e)
 have hcf := (hc.drewN q).trans (put9_chg (w2.drewN q) (w.heap.size + 1) 0 (.int .i32 r.s.q.a.v) (.int .i32 r.s.q.b.v) (.int .i32 r.s.q.c.v) (.int .i32 r.s.q.d.v) (.int .i64 r.s.s) (.int .i64 r.s.f) (.int .i64 r.s.g) (.string r.t) (.int .i64 r.e)) (D := []) (fun k hk => by simp at hk; omega)
 generalize put9 (w2.drewN q) (w.heap.size + 1) 0 (.int .i32 r.s.q.a.v) (.int .i32 r.s.q.b.v) (.int .i32 r.s.q.c.v) (.int .i32 r.s.q.d.v) (.int .i64 r.s.s) (.int .i64 r.s.f) (.int .i64 r.s.g) (.string r.t) (.int .i64 r.e) = wf at *
 have tc0 := kf.cell' (i := 0) rfl
 have tc1 := kf.cell' (i := 1) rfl
 have tc2 := kf.cell' (i := 2) rfl
 have tc3 := kf.cell' (i := 3) rfl
 have tc4 := kf.cell' (i := 4) rfl
 have tc5 := kf.cell' (i := 5) rfl
 have tc6 := kf.cell' (i := 6) rfl
 have tc7 := kf.cell' (i := 7) rfl
 have tc8 := kf.cell' (i := 8) rfl
 refine bodyPost_ret (results_ctt rfl _ _ _ (A := ⟨w.heap.size + 1, 0, none⟩) h2 (v := .agg #[.int .i32 r.s.q.a.v, .int .i32 r.s.q.b.v, .int .i32 r.s.q.c.v, .int .i32 r.s.q.d.v, .int .i64 r.s.s, .int .i64 r.s.f, .int .i64 r.s.g, .string r.t, .int .i64 r.e]) ?_) rfl ?_
 · go_simp
 · rw [h1]
   refine ⟨?_, hcf⟩
   rw [h3, h4]
   rfl
set_option maxRecDepth 100000 in
set_option maxHeartbeats 16000000 in
theorem chosenA_calls (X Y Z : An) (w : World) : Calls Tryz.prog 43 #[.agg #[.int .i32 X.s.q.a.v, .int .i32 X.s.q.b.v, .int .i32 X.s.q.c.v, .int .i32 X.s.q.d.v, .int .i64 X.s.s, .int .i64 X.s.f, .int .i64 X.s.g, .string X.t, .int .i64 X.e, .int .i32 Y.s.q.a.v, .int .i32 Y.s.q.b.v, .int .i32 Y.s.q.c.v, .int .i32 Y.s.q.d.v, .int .i64 Y.s.s, .int .i64 Y.s.f, .int .i64 Y.s.g, .string Y.t, .int .i64 Y.e, .int .i32 Z.s.q.a.v, .int .i32 Z.s.q.b.v, .int .i32 Z.s.q.c.v, .int .i32 Z.s.q.d.v, .int .i64 Z.s.s, .int .i64 Z.s.f, .int .i64 Z.s.g, .string Z.t, .int .i64 Z.e]] w fun e w' => e = .returned (chosenV (chosenA X Y Z)) ∧ Chg w w' [] := by
 have hg0 : Tryz.prog.eqGuardType Tryz.prog.depth 84 = false := by kernel_rfl
 go_enter Tryz.func43, Tryz.ntmps43
 go_upto_region 1 with (fail)
 have k0 : Blk ((w.alloc (.cells #[.int .i32 X.s.q.a.v, .int .i32 X.s.q.b.v, .int .i32 X.s.q.c.v, .int .i32 X.s.q.d.v, .int .i64 X.s.s, .int .i64 X.s.f, .int .i64 X.s.g, .string X.t, .int .i64 X.e, .int .i32 Y.s.q.a.v, .int .i32 Y.s.q.b.v, .int .i32 Y.s.q.c.v, .int .i32 Y.s.q.d.v, .int .i64 Y.s.s, .int .i64 Y.s.f, .int .i64 Y.s.g, .string Y.t, .int .i64 Y.e, .int .i32 Z.s.q.a.v, .int .i32 Z.s.q.b.v, .int .i32 Z.s.q.c.v, .int .i32 Z.s.q.d.v, .int .i64 Z.s.s, .int .i64 Z.s.f, .int .i64 Z.s.g, .string Z.t, .int .i64 Z.e] 85)).alloc (.cells #[.int .i32 0, .int .i32 0, .int .i32 0, .int .i32 0, .int .i64 0, .int .i64 0, .int .i64 0, .string ⟨#[]⟩, .int .i64 0] 84)) w.heap.size 85 (l27 X Y Z) := (Blk.new w _ _).alloc _
 have r0 : Blk ((w.alloc (.cells #[.int .i32 X.s.q.a.v, .int .i32 X.s.q.b.v, .int .i32 X.s.q.c.v, .int .i32 X.s.q.d.v, .int .i64 X.s.s, .int .i64 X.s.f, .int .i64 X.s.g, .string X.t, .int .i64 X.e, .int .i32 Y.s.q.a.v, .int .i32 Y.s.q.b.v, .int .i32 Y.s.q.c.v, .int .i32 Y.s.q.d.v, .int .i64 Y.s.s, .int .i64 Y.s.f, .int .i64 Y.s.g, .string Y.t, .int .i64 Y.e, .int .i32 Z.s.q.a.v, .int .i32 Z.s.q.b.v, .int .i32 Z.s.q.c.v, .int .i32 Z.s.q.d.v, .int .i64 Z.s.s, .int .i64 Z.s.f, .int .i64 Z.s.g, .string Z.t, .int .i64 Z.e] 85)).alloc (.cells #[.int .i32 0, .int .i32 0, .int .i32 0, .int .i32 0, .int .i64 0, .int .i64 0, .int .i64 0, .string ⟨#[]⟩, .int .i64 0] 84)) (w.heap.size + 1) 84 [.int .i32 0, .int .i32 0, .int .i32 0, .int .i32 0, .int .i64 0, .int .i64 0, .int .i64 0, .string ⟨#[]⟩, .int .i64 0] := by
  have := Blk.new (w.alloc (.cells #[.int .i32 X.s.q.a.v, .int .i32 X.s.q.b.v, .int .i32 X.s.q.c.v, .int .i32 X.s.q.d.v, .int .i64 X.s.s, .int .i64 X.s.f, .int .i64 X.s.g, .string X.t, .int .i64 X.e, .int .i32 Y.s.q.a.v, .int .i32 Y.s.q.b.v, .int .i32 Y.s.q.c.v, .int .i32 Y.s.q.d.v, .int .i64 Y.s.s, .int .i64 Y.s.f, .int .i64 Y.s.g, .string Y.t, .int .i64 Y.e, .int .i32 Z.s.q.a.v, .int .i32 Z.s.q.b.v, .int .i32 Z.s.q.c.v, .int .i32 Z.s.q.d.v, .int .i64 Z.s.s, .int .i64 Z.s.f, .int .i64 Z.s.g, .string Z.t, .int .i64 Z.e] 85)) 84 [.int .i32 0, .int .i32 0, .int .i32 0, .int .i32 0, .int .i64 0, .int .i64 0, .int .i64 0, .string ⟨#[]⟩, .int .i64 0]
  rwa [size_alloc] at this
 have HC := hide (((Chg.refl w []).alloc (.cells #[.int .i32 X.s.q.a.v, .int .i32 X.s.q.b.v, .int .i32 X.s.q.c.v, .int .i32 X.s.q.d.v, .int .i64 X.s.s, .int .i64 X.s.f, .int .i64 X.s.g, .string X.t, .int .i64 X.e, .int .i32 Y.s.q.a.v, .int .i32 Y.s.q.b.v, .int .i32 Y.s.q.c.v, .int .i32 Y.s.q.d.v, .int .i64 Y.s.s, .int .i64 Y.s.f, .int .i64 Y.s.g, .string Y.t, .int .i64 Y.e, .int .i32 Z.s.q.a.v, .int .i32 Z.s.q.b.v, .int .i32 Z.s.q.c.v, .int .i32 Z.s.q.d.v, .int .i64 Z.s.s, .int .i64 Z.s.f, .int .i64 Z.s.g, .string Z.t, .int .i64 Z.e] 85)).alloc (.cells #[.int .i32 0, .int .i32 0, .int .i32 0, .int .i32 0, .int .i64 0, .int .i64 0, .int .i64 0, .string ⟨#[]⟩, .int .i64 0] 84))
 generalize hw0 : ((w.alloc (.cells #[.int .i32 X.s.q.a.v, .int .i32 X.s.q.b.v, .int .i32 X.s.q.c.v, .int .i32 X.s.q.d.v, .int .i64 X.s.s, .int .i64 X.s.f, .int .i64 X.s.g, .string X.t, .int .i64 X.e, .int .i32 Y.s.q.a.v, .int .i32 Y.s.q.b.v, .int .i32 Y.s.q.c.v, .int .i32 Y.s.q.d.v, .int .i64 Y.s.s, .int .i64 Y.s.f, .int .i64 Y.s.g, .string Y.t, .int .i64 Y.e, .int .i32 Z.s.q.a.v, .int .i32 Z.s.q.b.v, .int .i32 Z.s.q.c.v, .int .i32 Z.s.q.d.v, .int .i64 Z.s.s, .int .i64 Z.s.f, .int .i64 Z.s.g, .string Z.t, .int .i64 Z.e] 85)).alloc (.cells #[.int .i32 0, .int .i32 0, .int .i32 0, .int .i32 0, .int .i64 0, .int .i64 0, .int .i64 0, .string ⟨#[]⟩, .int .i64 0] 84)) = w0 at *
 go_wp2_with fail
 go_loopw [8] (fun v wr => ∃ i : Nat, v = .int .i64 i ∧ i ≤ 3 ∧ Hid (Chg w wr []) ∧ Hid (Blk wr w.heap.size 85 (l27 X Y Z)) ∧ Hid (Blk wr (w.heap.size + 1) 84 [.int .i32 0, .int .i32 0, .int .i32 0, .int .i32 0, .int .i64 0, .int .i64 0, .int .i64 0, .string ⟨#[]⟩, .int .i64 0]) ∧ Hid ((1 ≤ i → Y.eqB Z = false) ∧ (2 ≤ i → X.eqB Z = false) ∧ (3 ≤ i → X.eqB Y = false))) (fun v _ => (3 - intOf v).toNat)
 case atStart => exact ⟨0, rfl, by omega, HC, hide k0, hide r0, hide ⟨fun h => by omega, fun h => by omega, fun h => by omega⟩⟩
 case round =>
  obtain ⟨i, rfl, hi, hc, hb, hr, hd⟩ := hrel
  clear k0 r0 HC hw0 w0
  rcases (by omega : i = 0 ∨ i = 1 ∨ i = 2 ∨ i = 3) with rfl | rfl | rfl | rfl
  · have hd' := hd
    clear hd
    go_wp2_with fail
    refine (cloneA_calls _ (l27 X Y Z) _ rfl hb.out (l27_one X Y Z)).mono ?_
    rintro e w1 ⟨g, cap, cur, rfl, hc1, hg, h3, hm, hk, ht⟩
    have hbw := hb.out.lt
    have hrw := hr.out.lt
    have hb1 := hide (hb.out.chg hc1 (by simp))
    have hr1 := hide (hr.out.chg hc1 (by simp))
    have hc1' := hide (hc.out.trans hc1 (by simp))
    have hne : w.heap.size ≠ g := by omega
    have hne2 : w.heap.size + 1 ≠ g := by omega
    have hgw : w.heap.size ≤ g := by omega
    have hK := hide hk
    have hT := hide ht
    clear hb hc hr hc1 hk ht hbw hrw hg
    go_wp2_with fail
    refine (delete0_calls g cap X.cells Y.cells Z.cells cur _ hK.out hT.out rfl rfl rfl Y.one Z.one h3 hm).mono ?_
    rintro e w2 ⟨rfl, hc2, x0, x1⟩
    have a0 : w2.cell? ⟨g, 0, none⟩ = some (.int .i32 Y.s.q.a.v) := x0 0 (by decide)
    have a1 : w2.cell? ⟨g, 1, none⟩ = some (.int .i32 Y.s.q.b.v) := x0 1 (by decide)
    have a2 : w2.cell? ⟨g, 2, none⟩ = some (.int .i32 Y.s.q.c.v) := x0 2 (by decide)
    have a3 : w2.cell? ⟨g, 3, none⟩ = some (.int .i32 Y.s.q.d.v) := x0 3 (by decide)
    have a4 : w2.cell? ⟨g, 4, none⟩ = some (.int .i64 Y.s.s) := x0 4 (by decide)
    have a5 : w2.cell? ⟨g, 5, none⟩ = some (.int .i64 Y.s.f) := x0 5 (by decide)
    have a6 : w2.cell? ⟨g, 6, none⟩ = some (.int .i64 Y.s.g) := x0 6 (by decide)
    have a7 : w2.cell? ⟨g, 7, none⟩ = some (.string Y.t) := x0 7 (by decide)
    have a8 : w2.cell? ⟨g, 8, none⟩ = some (.int .i64 Y.e) := x0 8 (by decide)
    have b0 : w2.cell? ⟨g, 9, none⟩ = some (.int .i32 Z.s.q.a.v) := x1 0 (by decide)
    have b1 : w2.cell? ⟨g, 10, none⟩ = some (.int .i32 Z.s.q.b.v) := x1 1 (by decide)
    have b2 : w2.cell? ⟨g, 11, none⟩ = some (.int .i32 Z.s.q.c.v) := x1 2 (by decide)
    have b3 : w2.cell? ⟨g, 12, none⟩ = some (.int .i32 Z.s.q.d.v) := x1 3 (by decide)
    have b4 : w2.cell? ⟨g, 13, none⟩ = some (.int .i64 Z.s.s) := x1 4 (by decide)
    have b5 : w2.cell? ⟨g, 14, none⟩ = some (.int .i64 Z.s.f) := x1 5 (by decide)
    have b6 : w2.cell? ⟨g, 15, none⟩ = some (.int .i64 Z.s.g) := x1 6 (by decide)
    have b7 : w2.cell? ⟨g, 16, none⟩ = some (.string Z.t) := x1 7 (by decide)
    have b8 : w2.cell? ⟨g, 17, none⟩ = some (.int .i64 Z.e) := x1 8 (by decide)
    clear x0 x1
    have hb2 := hb1.out.chg hc2 (by simpa using hne)
    have hr2 := hide (hr1.out.chg hc2 (by simpa using hne2))
    have y0 : w2.cell? ⟨w.heap.size, 0, none⟩ = some (.int .i32 X.s.q.a.v) := hb2.cell' (i := 0) rfl
    have y1 : w2.cell? ⟨w.heap.size, 1, none⟩ = some (.int .i32 X.s.q.b.v) := hb2.cell' (i := 1) rfl
    have y2 : w2.cell? ⟨w.heap.size, 2, none⟩ = some (.int .i32 X.s.q.c.v) := hb2.cell' (i := 2) rfl
    have y3 : w2.cell? ⟨w.heap.size, 3, none⟩ = some (.int .i32 X.s.q.d.v) := hb2.cell' (i := 3) rfl
    have y4 : w2.cell? ⟨w.heap.size, 4, none⟩ = some (.int .i64 X.s.s) := hb2.cell' (i := 4) rfl
    have y5 : w2.cell? ⟨w.heap.size, 5, none⟩ = some (.int .i64 X.s.f) := hb2.cell' (i := 5) rfl
    have y6 : w2.cell? ⟨w.heap.size, 6, none⟩ = some (.int .i64 X.s.g) := hb2.cell' (i := 6) rfl
    have y7 : w2.cell? ⟨w.heap.size, 7, none⟩ = some (.string X.t) := hb2.cell' (i := 7) rfl
    have y8 : w2.cell? ⟨w.heap.size, 8, none⟩ = some (.int .i64 X.e) := hb2.cell' (i := 8) rfl
    replace hb2 := hide hb2
    have HC2 := hide (hc1'.out.trans hc2 (D := []) (fun k hk => by simp at hk; subst hk; exact .inr hgw))
    clear hb1 hr1 hc1' hc2 hK hT h3 hm
    have k1 : ∀ w, _ := fun w => eqA Y.s.q.a.v Y.s.q.b.v Y.s.q.c.v Y.s.q.d.v Z.s.q.a.v Z.s.q.b.v Z.s.q.c.v Z.s.q.d.v Y.s.s Y.s.f Y.s.g Z.s.s Z.s.f Z.s.g Y.e Z.e Y.t Z.t w
    cases hXY : Y.eqB Z with
    | true =>
     have hXY' := hXY
     unfold An.eqB at hXY'
     rw [hXY'] at k1
     clear hXY'
     replace hXY := hide hXY
     go_wp2_with fail
     go_quiet (fail)
     have k2 : ∀ w, _ := fun w => eqA Y.s.q.a.v Y.s.q.b.v Y.s.q.c.v Y.s.q.d.v X.s.q.a.v X.s.q.b.v X.s.q.c.v X.s.q.d.v Y.s.s Y.s.f Y.s.g X.s.s X.s.f X.s.g Y.e X.e Y.t X.t w
     cases hYX : Y.eqB X with
     | true =>
      have hYX' := hYX
      unfold An.eqB at hYX'
      rw [hYX'] at k2
      clear hYX'
      replace hYX := hide hYX
      go_wp2_with fail
      go_quiet (fail)
      have hr3 := hr2.out
      have rc0 := hr3.cell' (i := 0) rfl
      have rf0 := hr3.frozen 0
      have rc1 := hr3.cell' (i := 1) rfl
      have rf1 := hr3.frozen 1
      have rc2 := hr3.cell' (i := 2) rfl
      have rf2 := hr3.frozen 2
      have rc3 := hr3.cell' (i := 3) rfl
      have rf3 := hr3.frozen 3
      have rc4 := hr3.cell' (i := 4) rfl
      have rf4 := hr3.frozen 4
      have rc5 := hr3.cell' (i := 5) rfl
      have rf5 := hr3.frozen 5
      have rc6 := hr3.cell' (i := 6) rfl
      have rf6 := hr3.frozen 6
      have rc7 := hr3.cell' (i := 7) rfl
      have rf7 := hr3.frozen 7
      have rc8 := hr3.cell' (i := 8) rfl
      have rf8 := hr3.frozen 8
      clear hr3
      go_wp2_with fail
      change bodyPost _ _ _ _ _ (put9 (w2.drewN _) (w.heap.size + 1) 0 (.int .i32 X.s.q.a.v) (.int .i32 X.s.q.b.v) (.int .i32 X.s.q.c.v) (.int .i32 X.s.q.d.v) (.int .i64 X.s.s) (.int .i64 X.s.f) (.int .i64 X.s.g) (.string X.t) (.int .i64 X.e))
      refine chosen_end (X := X) (Y := Y) (Z := Z) (r := X) (n := -1) rfl hr2.out HC2.out ⟨?_, rfl, rfl, rfl⟩
      unfold chosenA; rw [hXY.out, hYX.out]; rfl
     | false =>
      have hYX' := hYX
      unfold An.eqB at hYX'
      rw [hYX'] at k2
      clear hYX'
      replace hYX := hide hYX
      go_wp2_with fail
      go_quiet (fail)
      have hr3 := hr2.out
      have rc0 := hr3.cell' (i := 0) rfl
      have rf0 := hr3.frozen 0
      have rc1 := hr3.cell' (i := 1) rfl
      have rf1 := hr3.frozen 1
      have rc2 := hr3.cell' (i := 2) rfl
      have rf2 := hr3.frozen 2
      have rc3 := hr3.cell' (i := 3) rfl
      have rf3 := hr3.frozen 3
      have rc4 := hr3.cell' (i := 4) rfl
      have rf4 := hr3.frozen 4
      have rc5 := hr3.cell' (i := 5) rfl
      have rf5 := hr3.frozen 5
      have rc6 := hr3.cell' (i := 6) rfl
      have rf6 := hr3.frozen 6
      have rc7 := hr3.cell' (i := 7) rfl
      have rf7 := hr3.frozen 7
      have rc8 := hr3.cell' (i := 8) rfl
      have rf8 := hr3.frozen 8
      clear hr3
      go_wp2_with fail
      change bodyPost _ _ _ _ _ (put9 (w2.drewN _) (w.heap.size + 1) 0 (.int .i32 Y.s.q.a.v) (.int .i32 Y.s.q.b.v) (.int .i32 Y.s.q.c.v) (.int .i32 Y.s.q.d.v) (.int .i64 Y.s.s) (.int .i64 Y.s.f) (.int .i64 Y.s.g) (.string Y.t) (.int .i64 Y.e))
      refine chosen_end (X := X) (Y := Y) (Z := Z) (r := Y) (n := 0) rfl hr2.out HC2.out ⟨?_, rfl, rfl, rfl⟩
      unfold chosenA; rw [hXY.out, hYX.out]; rfl
    | false =>
     have hXY' := hXY
     unfold An.eqB at hXY'
     rw [hXY'] at k1
     clear hXY'
     replace hXY := hide hXY
     go_wp2_with fail
     go_quiet (fail)
     go_wp2
     go_roundw
     case rel => exact ⟨1, by go_num, by omega, HC2.out.drewN _, hb2.out.drewN _, hr2.out.drewN _, hide ⟨fun _ => hXY.out, fun h => by omega, fun h => by omega⟩⟩
     case measure => simp [intOf]
  · have hd' := hd
    clear hd
    go_wp2_with fail
    refine (cloneA_calls _ (l27 X Y Z) _ rfl hb.out (l27_one X Y Z)).mono ?_
    rintro e w1 ⟨g, cap, cur, rfl, hc1, hg, h3, hm, hk, ht⟩
    have hbw := hb.out.lt
    have hrw := hr.out.lt
    have hb1 := hide (hb.out.chg hc1 (by simp))
    have hr1 := hide (hr.out.chg hc1 (by simp))
    have hc1' := hide (hc.out.trans hc1 (by simp))
    have hne : w.heap.size ≠ g := by omega
    have hne2 : w.heap.size + 1 ≠ g := by omega
    have hgw : w.heap.size ≤ g := by omega
    have hK := hide hk
    have hT := hide ht
    clear hb hc hr hc1 hk ht hbw hrw hg
    go_wp2_with fail
    refine (delete1_calls g cap X.cells Y.cells Z.cells cur _ hK.out hT.out rfl rfl rfl Y.one Z.one h3 hm).mono ?_
    rintro e w2 ⟨rfl, hc2, x0, x1⟩
    have a0 : w2.cell? ⟨g, 0, none⟩ = some (.int .i32 X.s.q.a.v) := x0 0 (by decide)
    have a1 : w2.cell? ⟨g, 1, none⟩ = some (.int .i32 X.s.q.b.v) := x0 1 (by decide)
    have a2 : w2.cell? ⟨g, 2, none⟩ = some (.int .i32 X.s.q.c.v) := x0 2 (by decide)
    have a3 : w2.cell? ⟨g, 3, none⟩ = some (.int .i32 X.s.q.d.v) := x0 3 (by decide)
    have a4 : w2.cell? ⟨g, 4, none⟩ = some (.int .i64 X.s.s) := x0 4 (by decide)
    have a5 : w2.cell? ⟨g, 5, none⟩ = some (.int .i64 X.s.f) := x0 5 (by decide)
    have a6 : w2.cell? ⟨g, 6, none⟩ = some (.int .i64 X.s.g) := x0 6 (by decide)
    have a7 : w2.cell? ⟨g, 7, none⟩ = some (.string X.t) := x0 7 (by decide)
    have a8 : w2.cell? ⟨g, 8, none⟩ = some (.int .i64 X.e) := x0 8 (by decide)
    have b0 : w2.cell? ⟨g, 9, none⟩ = some (.int .i32 Z.s.q.a.v) := x1 0 (by decide)
    have b1 : w2.cell? ⟨g, 10, none⟩ = some (.int .i32 Z.s.q.b.v) := x1 1 (by decide)
    have b2 : w2.cell? ⟨g, 11, none⟩ = some (.int .i32 Z.s.q.c.v) := x1 2 (by decide)
    have b3 : w2.cell? ⟨g, 12, none⟩ = some (.int .i32 Z.s.q.d.v) := x1 3 (by decide)
    have b4 : w2.cell? ⟨g, 13, none⟩ = some (.int .i64 Z.s.s) := x1 4 (by decide)
    have b5 : w2.cell? ⟨g, 14, none⟩ = some (.int .i64 Z.s.f) := x1 5 (by decide)
    have b6 : w2.cell? ⟨g, 15, none⟩ = some (.int .i64 Z.s.g) := x1 6 (by decide)
    have b7 : w2.cell? ⟨g, 16, none⟩ = some (.string Z.t) := x1 7 (by decide)
    have b8 : w2.cell? ⟨g, 17, none⟩ = some (.int .i64 Z.e) := x1 8 (by decide)
    clear x0 x1
    have hb2 := hb1.out.chg hc2 (by simpa using hne)
    have hr2 := hide (hr1.out.chg hc2 (by simpa using hne2))
    have y0 : w2.cell? ⟨w.heap.size, 9, none⟩ = some (.int .i32 Y.s.q.a.v) := hb2.cell' (i := 9) rfl
    have y1 : w2.cell? ⟨w.heap.size, 10, none⟩ = some (.int .i32 Y.s.q.b.v) := hb2.cell' (i := 10) rfl
    have y2 : w2.cell? ⟨w.heap.size, 11, none⟩ = some (.int .i32 Y.s.q.c.v) := hb2.cell' (i := 11) rfl
    have y3 : w2.cell? ⟨w.heap.size, 12, none⟩ = some (.int .i32 Y.s.q.d.v) := hb2.cell' (i := 12) rfl
    have y4 : w2.cell? ⟨w.heap.size, 13, none⟩ = some (.int .i64 Y.s.s) := hb2.cell' (i := 13) rfl
    have y5 : w2.cell? ⟨w.heap.size, 14, none⟩ = some (.int .i64 Y.s.f) := hb2.cell' (i := 14) rfl
    have y6 : w2.cell? ⟨w.heap.size, 15, none⟩ = some (.int .i64 Y.s.g) := hb2.cell' (i := 15) rfl
    have y7 : w2.cell? ⟨w.heap.size, 16, none⟩ = some (.string Y.t) := hb2.cell' (i := 16) rfl
    have y8 : w2.cell? ⟨w.heap.size, 17, none⟩ = some (.int .i64 Y.e) := hb2.cell' (i := 17) rfl
    replace hb2 := hide hb2
    have HC2 := hide (hc1'.out.trans hc2 (D := []) (fun k hk => by simp at hk; subst hk; exact .inr hgw))
    clear hb1 hr1 hc1' hc2 hK hT h3 hm
    have k1 : ∀ w, _ := fun w => eqA X.s.q.a.v X.s.q.b.v X.s.q.c.v X.s.q.d.v Z.s.q.a.v Z.s.q.b.v Z.s.q.c.v Z.s.q.d.v X.s.s X.s.f X.s.g Z.s.s Z.s.f Z.s.g X.e Z.e X.t Z.t w
    cases hXY : X.eqB Z with
    | true =>
     have hXY' := hXY
     unfold An.eqB at hXY'
     rw [hXY'] at k1
     clear hXY'
     replace hXY := hide hXY
     go_wp2_with fail
     go_quiet (fail)
     have hne2 : X.eqB Y = false := An.eqB_false.2 (fun h => An.eqB_false.1 (hd'.out.1 (by omega)) (h.symm.trans (An.eqB_true.1 hXY.out)))
     have k2 : ∀ w, _ := fun w => eqA X.s.q.a.v X.s.q.b.v X.s.q.c.v X.s.q.d.v Y.s.q.a.v Y.s.q.b.v Y.s.q.c.v Y.s.q.d.v X.s.s X.s.f X.s.g Y.s.s Y.s.f Y.s.g X.e Y.e X.t Y.t w
     have hne' := hne2
     unfold An.eqB at hne'
     rw [hne'] at k2
     clear hne'
     replace hne2 := hide hne2
     have htrue : True := trivial
     cases htrue with
     | intro =>
      go_wp2_with fail
      go_quiet (fail)
      have hr3 := hr2.out
      have rc0 := hr3.cell' (i := 0) rfl
      have rf0 := hr3.frozen 0
      have rc1 := hr3.cell' (i := 1) rfl
      have rf1 := hr3.frozen 1
      have rc2 := hr3.cell' (i := 2) rfl
      have rf2 := hr3.frozen 2
      have rc3 := hr3.cell' (i := 3) rfl
      have rf3 := hr3.frozen 3
      have rc4 := hr3.cell' (i := 4) rfl
      have rf4 := hr3.frozen 4
      have rc5 := hr3.cell' (i := 5) rfl
      have rf5 := hr3.frozen 5
      have rc6 := hr3.cell' (i := 6) rfl
      have rf6 := hr3.frozen 6
      have rc7 := hr3.cell' (i := 7) rfl
      have rf7 := hr3.frozen 7
      have rc8 := hr3.cell' (i := 8) rfl
      have rf8 := hr3.frozen 8
      clear hr3
      go_wp2_with fail
      change bodyPost _ _ _ _ _ (put9 (w2.drewN _) (w.heap.size + 1) 0 (.int .i32 X.s.q.a.v) (.int .i32 X.s.q.b.v) (.int .i32 X.s.q.c.v) (.int .i32 X.s.q.d.v) (.int .i64 X.s.s) (.int .i64 X.s.f) (.int .i64 X.s.g) (.string X.t) (.int .i64 X.e))
      refine chosen_end (X := X) (Y := Y) (Z := Z) (r := X) (n := 1) rfl hr2.out HC2.out ⟨?_, rfl, rfl, rfl⟩
      unfold chosenA; rw [hd'.out.1 (by omega), hXY.out]; rfl
    | false =>
     have hXY' := hXY
     unfold An.eqB at hXY'
     rw [hXY'] at k1
     clear hXY'
     replace hXY := hide hXY
     go_wp2_with fail
     go_quiet (fail)
     go_wp2
     go_roundw
     case rel => exact ⟨2, by go_num, by omega, HC2.out.drewN _, hb2.out.drewN _, hr2.out.drewN _, hide ⟨fun _ => hd'.out.1 (by omega), fun _ => hXY.out, fun h => by omega⟩⟩
     case measure => simp [intOf]
  · have hd' := hd
    clear hd
    go_wp2_with fail
    refine (cloneA_calls _ (l27 X Y Z) _ rfl hb.out (l27_one X Y Z)).mono ?_
    rintro e w1 ⟨g, cap, cur, rfl, hc1, hg, h3, hm, hk, ht⟩
    have hbw := hb.out.lt
    have hrw := hr.out.lt
    have hb1 := hide (hb.out.chg hc1 (by simp))
    have hr1 := hide (hr.out.chg hc1 (by simp))
    have hc1' := hide (hc.out.trans hc1 (by simp))
    have hne : w.heap.size ≠ g := by omega
    have hne2 : w.heap.size + 1 ≠ g := by omega
    have hgw : w.heap.size ≤ g := by omega
    have hK := hide hk
    have hT := hide ht
    clear hb hc hr hc1 hk ht hbw hrw hg
    go_wp2_with fail
    refine (delete2_calls g cap X.cells Y.cells Z.cells cur _ hK.out hT.out rfl rfl rfl Y.one Z.one h3 hm).mono ?_
    rintro e w2 ⟨rfl, hc2, x0, x1⟩
    have a0 : w2.cell? ⟨g, 0, none⟩ = some (.int .i32 X.s.q.a.v) := x0 0 (by decide)
    have a1 : w2.cell? ⟨g, 1, none⟩ = some (.int .i32 X.s.q.b.v) := x0 1 (by decide)
    have a2 : w2.cell? ⟨g, 2, none⟩ = some (.int .i32 X.s.q.c.v) := x0 2 (by decide)
    have a3 : w2.cell? ⟨g, 3, none⟩ = some (.int .i32 X.s.q.d.v) := x0 3 (by decide)
    have a4 : w2.cell? ⟨g, 4, none⟩ = some (.int .i64 X.s.s) := x0 4 (by decide)
    have a5 : w2.cell? ⟨g, 5, none⟩ = some (.int .i64 X.s.f) := x0 5 (by decide)
    have a6 : w2.cell? ⟨g, 6, none⟩ = some (.int .i64 X.s.g) := x0 6 (by decide)
    have a7 : w2.cell? ⟨g, 7, none⟩ = some (.string X.t) := x0 7 (by decide)
    have a8 : w2.cell? ⟨g, 8, none⟩ = some (.int .i64 X.e) := x0 8 (by decide)
    have b0 : w2.cell? ⟨g, 9, none⟩ = some (.int .i32 Y.s.q.a.v) := x1 0 (by decide)
    have b1 : w2.cell? ⟨g, 10, none⟩ = some (.int .i32 Y.s.q.b.v) := x1 1 (by decide)
    have b2 : w2.cell? ⟨g, 11, none⟩ = some (.int .i32 Y.s.q.c.v) := x1 2 (by decide)
    have b3 : w2.cell? ⟨g, 12, none⟩ = some (.int .i32 Y.s.q.d.v) := x1 3 (by decide)
    have b4 : w2.cell? ⟨g, 13, none⟩ = some (.int .i64 Y.s.s) := x1 4 (by decide)
    have b5 : w2.cell? ⟨g, 14, none⟩ = some (.int .i64 Y.s.f) := x1 5 (by decide)
    have b6 : w2.cell? ⟨g, 15, none⟩ = some (.int .i64 Y.s.g) := x1 6 (by decide)
    have b7 : w2.cell? ⟨g, 16, none⟩ = some (.string Y.t) := x1 7 (by decide)
    have b8 : w2.cell? ⟨g, 17, none⟩ = some (.int .i64 Y.e) := x1 8 (by decide)
    clear x0 x1
    have hb2 := hb1.out.chg hc2 (by simpa using hne)
    have hr2 := hide (hr1.out.chg hc2 (by simpa using hne2))
    have y0 : w2.cell? ⟨w.heap.size, 18, none⟩ = some (.int .i32 Z.s.q.a.v) := hb2.cell' (i := 18) rfl
    have y1 : w2.cell? ⟨w.heap.size, 19, none⟩ = some (.int .i32 Z.s.q.b.v) := hb2.cell' (i := 19) rfl
    have y2 : w2.cell? ⟨w.heap.size, 20, none⟩ = some (.int .i32 Z.s.q.c.v) := hb2.cell' (i := 20) rfl
    have y3 : w2.cell? ⟨w.heap.size, 21, none⟩ = some (.int .i32 Z.s.q.d.v) := hb2.cell' (i := 21) rfl
    have y4 : w2.cell? ⟨w.heap.size, 22, none⟩ = some (.int .i64 Z.s.s) := hb2.cell' (i := 22) rfl
    have y5 : w2.cell? ⟨w.heap.size, 23, none⟩ = some (.int .i64 Z.s.f) := hb2.cell' (i := 23) rfl
    have y6 : w2.cell? ⟨w.heap.size, 24, none⟩ = some (.int .i64 Z.s.g) := hb2.cell' (i := 24) rfl
    have y7 : w2.cell? ⟨w.heap.size, 25, none⟩ = some (.string Z.t) := hb2.cell' (i := 25) rfl
    have y8 : w2.cell? ⟨w.heap.size, 26, none⟩ = some (.int .i64 Z.e) := hb2.cell' (i := 26) rfl
    replace hb2 := hide hb2
    have HC2 := hide (hc1'.out.trans hc2 (D := []) (fun k hk => by simp at hk; subst hk; exact .inr hgw))
    clear hb1 hr1 hc1' hc2 hK hT h3 hm
    have k1 : ∀ w, _ := fun w => eqA X.s.q.a.v X.s.q.b.v X.s.q.c.v X.s.q.d.v Y.s.q.a.v Y.s.q.b.v Y.s.q.c.v Y.s.q.d.v X.s.s X.s.f X.s.g Y.s.s Y.s.f Y.s.g X.e Y.e X.t Y.t w
    cases hXY : X.eqB Y with
    | true =>
     have hXY' := hXY
     unfold An.eqB at hXY'
     rw [hXY'] at k1
     clear hXY'
     replace hXY := hide hXY
     go_wp2_with fail
     go_quiet (fail)
     have hne2 : X.eqB Z = false := hd'.out.2.1 (by omega)
     have k2 : ∀ w, _ := fun w => eqA X.s.q.a.v X.s.q.b.v X.s.q.c.v X.s.q.d.v Z.s.q.a.v Z.s.q.b.v Z.s.q.c.v Z.s.q.d.v X.s.s X.s.f X.s.g Z.s.s Z.s.f Z.s.g X.e Z.e X.t Z.t w
     have hne' := hne2
     unfold An.eqB at hne'
     rw [hne'] at k2
     clear hne'
     replace hne2 := hide hne2
     have htrue : True := trivial
     cases htrue with
     | intro =>
      go_wp2_with fail
      go_quiet (fail)
      have hr3 := hr2.out
      have rc0 := hr3.cell' (i := 0) rfl
      have rf0 := hr3.frozen 0
      have rc1 := hr3.cell' (i := 1) rfl
      have rf1 := hr3.frozen 1
      have rc2 := hr3.cell' (i := 2) rfl
      have rf2 := hr3.frozen 2
      have rc3 := hr3.cell' (i := 3) rfl
      have rf3 := hr3.frozen 3
      have rc4 := hr3.cell' (i := 4) rfl
      have rf4 := hr3.frozen 4
      have rc5 := hr3.cell' (i := 5) rfl
      have rf5 := hr3.frozen 5
      have rc6 := hr3.cell' (i := 6) rfl
      have rf6 := hr3.frozen 6
      have rc7 := hr3.cell' (i := 7) rfl
      have rf7 := hr3.frozen 7
      have rc8 := hr3.cell' (i := 8) rfl
      have rf8 := hr3.frozen 8
      clear hr3
      go_wp2_with fail
      change bodyPost _ _ _ _ _ (put9 (w2.drewN _) (w.heap.size + 1) 0 (.int .i32 X.s.q.a.v) (.int .i32 X.s.q.b.v) (.int .i32 X.s.q.c.v) (.int .i32 X.s.q.d.v) (.int .i64 X.s.s) (.int .i64 X.s.f) (.int .i64 X.s.g) (.string X.t) (.int .i64 X.e))
      refine chosen_end (X := X) (Y := Y) (Z := Z) (r := X) (n := 2) rfl hr2.out HC2.out ⟨?_, rfl, rfl, rfl⟩
      unfold chosenA; rw [hd'.out.1 (by omega), hd'.out.2.1 (by omega), hXY.out]; rfl
    | false =>
     have hXY' := hXY
     unfold An.eqB at hXY'
     rw [hXY'] at k1
     clear hXY'
     replace hXY := hide hXY
     go_wp2_with fail
     go_quiet (fail)
     go_wp2
     go_roundw
     case rel => exact ⟨3, by go_num, by omega, HC2.out.drewN _, hb2.out.drewN _, hr2.out.drewN _, hide ⟨fun _ => hd'.out.1 (by omega), fun _ => hd'.out.2.1 (by omega), fun _ => hXY.out⟩⟩
     case measure => simp [intOf]
  · have hr3 := hr.out.alloc (.cells #[.int .i32 0, .int .i32 0, .int .i32 0, .int .i32 0, .int .i64 0, .int .i64 0, .int .i64 0, .string ⟨#[]⟩, .int .i64 0] 84)
    have rc0 := hr3.cell' (i := 0) rfl
    have rf0 := hr3.frozen 0
    have rc1 := hr3.cell' (i := 1) rfl
    have rf1 := hr3.frozen 1
    have rc2 := hr3.cell' (i := 2) rfl
    have rf2 := hr3.frozen 2
    have rc3 := hr3.cell' (i := 3) rfl
    have rf3 := hr3.frozen 3
    have rc4 := hr3.cell' (i := 4) rfl
    have rf4 := hr3.frozen 4
    have rc5 := hr3.cell' (i := 5) rfl
    have rf5 := hr3.frozen 5
    have rc6 := hr3.cell' (i := 6) rfl
    have rf6 := hr3.frozen 6
    have rc7 := hr3.cell' (i := 7) rfl
    have rf7 := hr3.frozen 7
    have rc8 := hr3.cell' (i := 8) rfl
    have rf8 := hr3.frozen 8
    clear hr3
    have hz := Blk.new wr 84 [.int .i32 0, .int .i32 0, .int .i32 0, .int .i32 0, .int .i64 0, .int .i64 0, .int .i64 0, .string ⟨#[]⟩, .int .i64 0]
    have z0 := hz.cell' (i := 0) rfl
    have zf0 := hz.frozen 0
    have z1 := hz.cell' (i := 1) rfl
    have zf1 := hz.frozen 1
    have z2 := hz.cell' (i := 2) rfl
    have zf2 := hz.frozen 2
    have z3 := hz.cell' (i := 3) rfl
    have zf3 := hz.frozen 3
    have z4 := hz.cell' (i := 4) rfl
    have zf4 := hz.frozen 4
    have z5 := hz.cell' (i := 5) rfl
    have zf5 := hz.frozen 5
    have z6 := hz.cell' (i := 6) rfl
    have zf6 := hz.frozen 6
    have z7 := hz.cell' (i := 7) rfl
    have zf7 := hz.frozen 7
    have z8 := hz.cell' (i := 8) rfl
    have zf8 := hz.frozen 8
    clear hz
    go_wp2_with fail
    change bodyPost _ _ _ _ _ (put9 (wr.alloc (.cells #[.int .i32 0, .int .i32 0, .int .i32 0, .int .i32 0, .int .i64 0, .int .i64 0, .int .i64 0, .string ⟨#[]⟩, .int .i64 0] 84)) (w.heap.size + 1) 0 (.int .i32 0) (.int .i32 0) (.int .i32 0) (.int .i32 0) (.int .i64 0) (.int .i64 0) (.int .i64 0) (.string ⟨#[]⟩) (.int .i64 0))
    have kf := put9_blk (hr.out.alloc (.cells #[.int .i32 0, .int .i32 0, .int .i32 0, .int .i32 0, .int .i64 0, .int .i64 0, .int .i64 0, .string ⟨#[]⟩, .int .i64 0] 84)) 0 (.int .i32 0) (.int .i32 0) (.int .i32 0) (.int .i32 0) (.int .i64 0) (.int .i64 0) (.int .i64 0) (.string ⟨#[]⟩) (.int .i64 0)
    have hcf := (hc.out.alloc (.cells #[.int .i32 0, .int .i32 0, .int .i32 0, .int .i32 0, .int .i64 0, .int .i64 0, .int .i64 0, .string ⟨#[]⟩, .int .i64 0] 84)).trans (put9_chg (wr.alloc (.cells #[.int .i32 0, .int .i32 0, .int .i32 0, .int .i32 0, .int .i64 0, .int .i64 0, .int .i64 0, .string ⟨#[]⟩, .int .i64 0] 84)) (w.heap.size + 1) 0 (.int .i32 0) (.int .i32 0) (.int .i32 0) (.int .i32 0) (.int .i64 0) (.int .i64 0) (.int .i64 0) (.string ⟨#[]⟩) (.int .i64 0)) (D := []) (fun k hk => by simp at hk; omega)
    clear hr hc hb rc0 rf0 z0 zf0 rc1 rf1 z1 zf1 rc2 rf2 z2 zf2 rc3 rf3 z3 zf3 rc4 rf4 z4 zf4 rc5 rf5 z5 zf5 rc6 rf6 z6 zf6 rc7 rf7 z7 zf7 rc8 rf8 z8 zf8
    generalize put9 (wr.alloc (.cells #[.int .i32 0, .int .i32 0, .int .i32 0, .int .i32 0, .int .i64 0, .int .i64 0, .int .i64 0, .string ⟨#[]⟩, .int .i64 0] 84)) (w.heap.size + 1) 0 (.int .i32 0) (.int .i32 0) (.int .i32 0) (.int .i32 0) (.int .i64 0) (.int .i64 0) (.int .i64 0) (.string ⟨#[]⟩) (.int .i64 0) = wf at *
    have tc0 := kf.cell' (i := 0) rfl
    have tc1 := kf.cell' (i := 1) rfl
    have tc2 := kf.cell' (i := 2) rfl
    have tc3 := kf.cell' (i := 3) rfl
    have tc4 := kf.cell' (i := 4) rfl
    have tc5 := kf.cell' (i := 5) rfl
    have tc6 := kf.cell' (i := 6) rfl
    have tc7 := kf.cell' (i := 7) rfl
    have tc8 := kf.cell' (i := 8) rfl
    refine bodyPost_ret (results_ctt rfl _ _ _ (A := ⟨w.heap.size + 1, 0, none⟩) rfl (v := .agg #[.int .i32 0, .int .i32 0, .int .i32 0, .int .i32 0, .int .i64 0, .int .i64 0, .int .i64 0, .string ⟨#[]⟩, .int .i64 0]) ?_) rfl ?_
    · go_simp
    · obtain ⟨d1, d2, d3⟩ := hd.out
      have e : chosenA X Y Z = none := by unfold chosenA; rw [d1 (by omega), d2 (by omega), d3 (by omega)]; rfl
      rw [e]
      exact ⟨rfl, hcf⟩
end Go.Proofs.YtihgijhjhmjolaaGreatDoor.Xi
