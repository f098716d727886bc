/- Texts of this claim, side by side: Plain, Slots3. -/
import Derived.Test.YtihgijhjhmjolaaGreatDoorMT4
import Derived.OneCell
/- The mill of numbers: its cells and tables. -/
namespace Go.Proofs.YtihgijhjhmjolaaGreatDoor
open Go.RowKit Go.Deep
set_option linter.unusedVariables false
/-- Plain at block b holds the cells cs and the tables' slices vs, each of which reads as words. -/
structure Pl (w : World) (b : Nat) (cs : List Wd) (ts : List Value) (vc vt : Value) : Prop where
  blk : Blk w b 155 [vc, vt]
  row : w.ownsRow 0 21 1 vc cs.length (wds cs)
  tab : w.ownsRow 0 110 1 vt ts.length ts
  ne : vc.ownBlock ≠ some b ∧ vt.ownBlock ≠ some b ∧ (vc.ownBlock = none ∨ vc.ownBlock ≠ vt.ownBlock)
set_option maxRecDepth 100000 in
set_option maxHeartbeats 1000000 in
theorem loop_calls (p : Value) (f : FuncId) (caps : Array Value) (n : Nat) (hn : n ≤ 1000) (I : Nat → World → Prop) (w : World)
    (hf : ∀ (x : Value) (w : World), Sem.run Tryz.prog (callFunc f (#[x] ++ caps)) w = Result.ok (Next.enter f (#[x] ++ caps)) w)
    (h : ∀ i w, i < n → I i w → Calls Tryz.prog f (#[.int .i32 i] ++ caps) w fun e w' => e = .returned (.tuple #[]) ∧ I (i + 1) w') (h0 : I 0 w) :
    Calls Tryz.prog 204 #[p, .int .i64 n, .func (.func f) #[] caps] w fun e w' => e = .returned (.tuple #[]) ∧ I n w' := by
  have H := hide h
  clear h
  have H0 := hide h0
  clear h0
  go_enter Tryz.func204, Tryz.ntmps204
  go_wp2
  go_loopw [8] (fun i wr => ∃ k : Nat, k ≤ n ∧ i = .int .i64 k ∧ Hid (I k wr)) (fun i _ => n - (intOf i).toNat)
  case atStart => exact ⟨0, Nat.zero_le _, rfl, H0⟩
  case round =>
    obtain ⟨k, hk, rfl, HI⟩ := hrel
    by_cases hlt : k < n
    · go_wp2_with fail
      refine (H.out k _ hlt HI.out).mono ?_
      rintro e w1 ⟨rfl, hI⟩
      have HI2 := hide hI
      clear hI
      go_wp2
      go_roundw
      case rel => exact ⟨k + 1, by omega, by go_num, HI2⟩
      case measure => simp [intOf]; omega
    · have hk : k = n := by omega
      subst hk
      go_wp2
      go_end0
      exact ⟨rfl, HI.out⟩

theorem info_parts {t : TypeId} {z : Value} {n m : Nat} (h : (Tryz.prog.info? t).map (fun i => (i.zero, i.size, i.bytes)) = some (some z, n, m)) :
    ∃ i0, Tryz.prog.info? t = some i0 ∧ i0.zero = some z ∧ i0.size = n ∧ i0.bytes = m := by
  cases hi : Tryz.prog.info? t with
  | none => rw [hi] at h; cases h
  | some i => rw [hi] at h; simp only [Option.map_some, Option.some.injEq, Prod.mk.injEq] at h; exact ⟨i, rfl, h.1, h.2.1, h.2.2⟩
theorem info_i32_0 : (Tryz.prog.info? 21).map (fun i => (i.zero, i.size, i.bytes)) = some (some (.int .i32 0), 1, 4) := by kernel_rfl
/-- A row of the mill's, at cell k. -/
theorem row_at {w : World} {e : TypeId} {v : Value} {n : Nat} {xs : List Value} (h : w.ownsRow 0 e 1 v n xs) {k : Nat} {u : Value} (hk : xs[k]? = some u) :
    ∃ g cap, v = .slice (some ⟨g, 0, none⟩) n cap ∧ w.cell? ⟨g, k, none⟩ = some u ∧ w.frozen? ⟨g, k, none⟩ = false := by
  have hl := h.1
  have hkl : k < xs.length := (List.getElem?_eq_some_iff.1 hk).1
  rcases h.2 with ⟨rfl, h0⟩ | ⟨g, cap, cur, rfl, h1, h2, h3, h4, h5, h6⟩
  · omega
  · refine ⟨g, cap, rfl, ?_, by simp [World.frozen?, h2]⟩
    have := h.cells (g := g) rfl k u hk
    rwa [add_plain, Nat.zero_add] at this
set_option maxRecDepth 100000 in
set_option maxHeartbeats 1000000 in
theorem get_calls (b k : Nat) (cs : List Wd) (ts : List Value) (vc vt : Value) (w : World) (h : Pl w b cs ts vc vt) (hk : k < cs.length) (hb : cs.length ≤ 1000) :
    Calls Tryz.prog 203 #[.pointer (some ⟨b, 0, none⟩), .int .i64 k] w fun e w' => e = .returned (.int .i32 (cs[k]).v) ∧ Chg w w' [] := by
  obtain ⟨g, cap, hv, hc, hf⟩ := row_at h.row (wds_at cs k hk)
  have c0 := h.blk.cell' (i := 0) rfl
  rw [hv] at c0
  have hlt : ((k : Nat) : Int) < (cs.length : Int) := by omega
  have HC := hide (Chg.refl w [])
  generalize cs[k] = x at *
  clear h hv hf hk
  go_enter Tryz.func203, Tryz.ntmps203
  go_wp2
  go_ret
  exact ⟨rfl, HC.out⟩

/-- The mill's own blocks. -/
theorem one_wds (l : List Wd) : ∀ v ∈ wds l, v.oneCell' = true := by
  intro v hv
  obtain ⟨z, _, rfl⟩ := List.mem_map.1 hv
  rfl
def own (b : Nat) (vc vt : Value) : List Nat := b :: (vc.ownBlock.toList ++ vt.ownBlock.toList)
theorem mem_own {b : Nat} {vc vt : Value} {k : Nat} : k ∈ own b vc vt ↔ k = b ∨ vc.ownBlock = some k ∨ vt.ownBlock = some k := by
  unfold own; simp [Option.mem_toList]
theorem ownsRow_chg {w w' : World} {D : List Nat} {base : Nat} {e : TypeId} {size : Nat} {v : Value} {n : Nat} {xs : List Value} (h : w.ownsRow base e size v n xs) (hc : Chg w w' D) (hD : ∀ g, v.ownBlock = some g → g ∉ D) : w'.ownsRow base e size v n xs := by
  refine ⟨h.1, ?_⟩
  rcases h.2 with h0 | ⟨g, cap, cur, rfl, h1, h2, h3⟩
  · exact .inl h0
  · exact .inr ⟨g, cap, cur, rfl, h1, hc.heap h2 (hD g rfl), h3⟩
theorem ownsRow_set {w : World} {base : Nat} {e : TypeId} {v : Value} {n g c k : Nat} {xs : List Value} (h : w.ownsRow base e 1 v n xs) (hv : v = .slice (some ⟨g, 0, none⟩) n c) (hk : k < n) (u : Value) : (w.setCell ⟨g, k, none⟩ u).ownsRow base e 1 v n (xs.set k u) := by
  refine ⟨by simpa using h.1, ?_⟩
  rcases h.2 with ⟨h0, _⟩ | ⟨g', cap, cur, h0, h1, h2, h3, h4, h5, h6⟩
  · rw [hv] at h0; cases h0
  · rw [hv] at h0
    injection h0 with hg _ hcap
    injection hg with hg
    injection hg with hg _ _
    subst hg hcap
    refine .inr ⟨g, c, cur.setIfInBounds k u, hv, h1, ?_, h3, h4, by simpa using h5, ?_⟩
    · simp [World.setCell, Array.getElem?_modify, h2]
    · rw [← h6]
      simp [List.take_set]
theorem ownsRow_lt {w : World} {base : Nat} {e : TypeId} {size : Nat} {v : Value} {n : Nat} {xs : List Value} (h : w.ownsRow base e size v n xs) {g : Nat} (hg : v.ownBlock = some g) : g < w.heap.size := by
  rcases h.2 with ⟨rfl, _⟩ | ⟨g', cap, cur, rfl, _, h2, _⟩
  · cases hg
  · injection hg with hg; subst hg; exact lt_of_heap h2
theorem Pl.chg {w w' : World} {b : Nat} {cs : List Wd} {ts : List Value} {vc vt : Value} {D : List Nat} (h : Pl w b cs ts vc vt) (hc : Chg w w' D) (hD : ∀ k ∈ own b vc vt, k ∉ D) : Pl w' b cs ts vc vt :=
  ⟨h.blk.chg hc (hD b (mem_own.2 (.inl rfl))), ownsRow_chg h.row hc (fun g hg => hD g (mem_own.2 (.inr (.inl hg)))), ownsRow_chg h.tab hc (fun g hg => hD g (mem_own.2 (.inr (.inr hg)))), h.ne⟩
theorem Pl.lt {w : World} {b : Nat} {cs : List Wd} {ts : List Value} {vc vt : Value} (h : Pl w b cs ts vc vt) : ∀ k ∈ own b vc vt, k < w.heap.size := fun k hk => by
  rcases mem_own.1 hk with rfl | hk | hk
  · exact h.blk.lt
  · exact ownsRow_lt h.row hk
  · exact ownsRow_lt h.tab hk

set_option maxRecDepth 100000 in
set_option maxHeartbeats 1000000 in
theorem set_calls (b k : Nat) (x : Wd) (cs : List Wd) (ts : List Value) (vc vt : Value) (w : World) (h : Pl w b cs ts vc vt) (hk : k < cs.length) (hb : cs.length ≤ 1000) :
    Calls Tryz.prog 205 #[.pointer (some ⟨b, 0, none⟩), .int .i64 k, .int .i32 x.v] w fun e w' => e = .returned (.tuple #[]) ∧ Pl w' b (cs.set k x) ts vc vt ∧ Chg w w' (own b vc vt) := by
  obtain ⟨g, cap, hv, hc, hf⟩ := row_at h.row (wds_at cs k hk)
  have c0 := h.blk.cell' (i := 0) rfl
  rw [hv] at c0
  have hlt : ((k : Nat) : Int) < (cs.length : Int) := by omega
  have hgb : g ≠ b := fun e => h.ne.1 (by rw [hv, e]; rfl)
  have hgt : vt.ownBlock ≠ some g := fun e => by
    rcases h.ne.2.2 with h1 | h1
    · rw [hv] at h1; cases h1
    · exact h1 (by rw [hv, e]; rfl)
  have HP : Hid (Pl (w.setCell ⟨g, k, none⟩ (.int .i32 x.v)) b (cs.set k x) ts vc vt) := by
    refine ⟨h.blk.far (Ne.symm hgb) _, ?_, ownsRow_setCell_other h.tab hgt _, h.ne⟩
    have := ownsRow_set h.row hv hk (.int .i32 x.v)
    simpa [wds, List.map_set] using this
  have HC : Hid (Chg w (w.setCell ⟨g, k, none⟩ (.int .i32 x.v)) (own b vc vt)) := (Chg.refl w _).setCell _ _ (.inl (mem_own.2 (.inr (.inl (by rw [hv]; rfl)))))
  generalize cs[k] = y at *
  clear h hv hk hgb hgt
  go_enter Tryz.func205, Tryz.ntmps205
  go_wp2
  go_end0
  exact ⟨rfl, HP.out, HC.out⟩

set_option maxRecDepth 100000 in
set_option maxHeartbeats 1000000 in
theorem cell_calls (b : Nat) (x : Wd) (cs : List Wd) (ts : List Value) (vc vt : Value) (w : World) (h : Pl w b cs ts vc vt) (hb : cs.length ≤ 1000) :
    Calls Tryz.prog 199 #[.pointer (some ⟨b, 0, none⟩), .int .i32 x.v] w fun e w' => e = .returned (.int .i64 cs.length) ∧ ∃ vc', Pl w' b (cs ++ [x]) ts vc' vt ∧ Chg w w' (own b vc vt) ∧ (vc'.ownBlock = vc.ownBlock ∨ ∃ g, vc'.ownBlock = some g ∧ w.heap.size ≤ g) := by
  have c0 := h.blk.cell' (i := 0) rfl
  have hf0 := h.blk.frozen 0
  obtain ⟨i0, hi0, hz0, hz1, hz2⟩ := info_parts info_i32_0
  have HP := hide h
  have hal := (Chg.refl w []).alloc (.cells #[.int .i32 x.v] 21)
  have hrow := ownsRow_chg h.row hal (by simp)
  have hsl : Sl (w.alloc (.cells #[.int .i32 x.v] 21)) (.slice (some ⟨w.heap.size, 0, none⟩) 1 1) (wds [x]) := Sl.blk' (Blk.new w 21 [.int .i32 x.v]) rfl (Nat.le_refl _)
  have h63 : cs.length + (wds [x]).length ≤ maxLen := by unfold maxLen; simp [wds]; omega
  have hby : (cs.length + (wds [x]).length) * 4 ≤ 140737488355328 := by simp [wds]; omega
  have hL : cs.length + (wds [x]).length = cs.length + 1 := rfl
  have HB := hide (h.blk.alloc (.cells #[.int .i32 x.v] 21))
  clear h
  go_enter Tryz.func199, Tryz.ntmps199
  go_wp2_with (at_builtin; refine wpList_append_sl rfl (.tmp 9) (.tmp 11) 110 rfl 0 21 i0 (.int .i32 0) 4 Tryz.underlying110 hi0 hz0 hz1 hz2 rfl vc cs.length (wds cs) rfl hrow (.slice (some ⟨w.heap.size, 0, none⟩) 1 1) (wds [x]) rfl hsl (one_wds _) h63 hby (Nat.zero_le _) ?_)
  intro v1 w1 hown hgr hat
  have hbn : b ∉ vc.ownBlock.toList := by simp [Option.mem_toList]; exact HP.out.ne.1
  have hgc : Chg (w.alloc (.cells #[.int .i32 x.v] 21)) w1 vc.ownBlock.toList := Chg.of_grown hgr (fun k hk => .inl (by simp [hk]))
  have B1 : Blk w1 b 155 [vc, vt] := HB.out.chg hgc hbn
  have c1 := B1.cell' (i := 0) rfl
  have f1 := B1.frozen 0
  have hown2 : w1.ownsRow 0 21 1 v1 (cs ++ [x]).length (wds (cs ++ [x])) := by
    have : wds (cs ++ [x]) = wds cs ++ wds [x] := by simp [wds]
    rw [this, List.length_append]
    exact hown
  obtain ⟨g, cap, rest, hv1, hg, hblk, hcap⟩ := own_form hown (by simp)
  have B2 := B1.set_ 0 v1
  have hgb : v1.ownBlock ≠ some b := by
    rcases hat with h1 | h1
    · rw [h1]; exact HP.out.ne.1
    · rw [h1]; intro e; injection e with e; have := HP.out.blk.lt; omega
  have hvt : v1.ownBlock ≠ vt.ownBlock := by
    rcases hat with h1 | h1
    · rw [h1]
      rcases HP.out.ne.2.2 with h2 | h2
      · intro e; rw [← h1] at h2; rw [hv1] at h2; cases h2
      · exact h2
    · rw [h1]; intro e; have := ownsRow_lt HP.out.tab e.symm; omega
  have HP2 : Hid (Pl (w1.setCell ⟨b, 0, none⟩ v1) b (cs ++ [x]) ts v1 vt) := by
    refine ⟨B2, ownsRow_setCell_other hown2 hgb _, ownsRow_setCell_other (ownsRow_chg (ownsRow_chg HP.out.tab ((Chg.refl w []).alloc _) (by simp)) hgc ?_) HP.out.ne.2.1 _, hgb, HP.out.ne.2.1, .inr hvt⟩
    intro g' hg' hm
    simp [Option.mem_toList] at hm
    rcases HP.out.ne.2.2 with h2 | h2
    · rw [h2] at hm; cases hm
    · exact h2 (hm.trans hg'.symm)
  have HC2 : Hid (Chg w (w1.setCell ⟨b, 0, none⟩ v1) (own b vc vt)) :=
    ((((Chg.refl w (own b vc vt)).alloc _).trans hgc (D := own b vc vt) (fun k hk => .inl (mem_own.2 (.inr (.inl (by simpa using hk)))))).setCell _ _ (.inl (mem_own.2 (.inl rfl))))
  have hat' : v1.ownBlock = vc.ownBlock ∨ ∃ g, v1.ownBlock = some g ∧ w.heap.size ≤ g := hat.imp id (fun h => ⟨_, h, by simp⟩)
  clear hgr hown hbn hgc B1 B2 hgb hvt hown2 hblk hcap hg hat HB HP hrow hsl hal c0 hf0 h63 hby hL
  subst hv1
  have HF := hide hat'
  clear hat'
  go_wp2
  go_ret
  exact ⟨ret_int (by omega), _, HP2.out, HC2.out, HF.out⟩
theorem info_sl_0 : (Tryz.prog.info? 110).map (fun i => (i.zero, i.size, i.bytes)) = some (some (.slice none 0 0), 1, 24) := by kernel_rfl
set_option maxRecDepth 100000 in
set_option maxHeartbeats 1000000 in
theorem table_calls (b : Nat) (x : Value) (hx1 : x.oneCell' = true) (A : Option Addr) (xl xc : Nat) (hx : x = .slice A xl xc) (cs : List Wd) (ts : List Value) (vc vt : Value) (w : World) (h : Pl w b cs ts vc vt) (hb : ts.length ≤ 1000) :
    Calls Tryz.prog 206 #[.pointer (some ⟨b, 0, none⟩), x] w fun e w' => e = .returned (.int .i64 ts.length) ∧ ∃ vt', Pl w' b cs (ts ++ [x]) vc vt' ∧ Chg w w' (own b vc vt) ∧ (vt'.ownBlock = vt.ownBlock ∨ ∃ g, vt'.ownBlock = some g ∧ w.heap.size ≤ g) := by
  have c0 := h.blk.cell' (i := 1) rfl
  have hf0 := h.blk.frozen 1
  obtain ⟨i0, hi0, hz0, hz1, hz2⟩ := info_parts info_sl_0
  have HP := hide h
  subst hx
  have hone : ∀ u ∈ [Value.slice A xl xc], u.oneCell' = true := by simpa using hx1
  have hal := (Chg.refl w []).alloc (.cells #[Value.slice A xl xc] 110)
  have hrow := ownsRow_chg h.tab hal (by simp)
  have hsl : Sl (w.alloc (.cells #[Value.slice A xl xc] 110)) (.slice (some ⟨w.heap.size, 0, none⟩) 1 1) [Value.slice A xl xc] := Sl.blk' (Blk.new w 110 [Value.slice A xl xc]) rfl (Nat.le_refl _)
  have h63 : ts.length + [Value.slice A xl xc].length ≤ maxLen := by unfold maxLen; simp; omega
  have hby : (ts.length + [Value.slice A xl xc].length) * 24 ≤ 140737488355328 := by simp; omega
  have hL : ts.length + [Value.slice A xl xc].length = ts.length + 1 := rfl
  have HB := hide (h.blk.alloc (.cells #[Value.slice A xl xc] 110))
  clear h
  go_enter Tryz.func206, Tryz.ntmps206
  go_wp2_with (at_builtin; refine wpList_append_sl rfl (.tmp 9) (.tmp 11) 153 rfl 0 110 i0 (.slice none 0 0) 24 Tryz.underlying153 hi0 hz0 hz1 hz2 rfl vt ts.length ts rfl hrow (.slice (some ⟨w.heap.size, 0, none⟩) 1 1) [Value.slice A xl xc] rfl hsl hone h63 hby (Nat.zero_le _) ?_)
  intro v1 w1 hown hgr hat
  have hbn : b ∉ vt.ownBlock.toList := by simp [Option.mem_toList]; exact HP.out.ne.2.1
  have hgc : Chg (w.alloc (.cells #[Value.slice A xl xc] 110)) w1 vt.ownBlock.toList := Chg.of_grown hgr (fun k hk => .inl (by simp [hk]))
  have B1 : Blk w1 b 155 [vc, vt] := HB.out.chg hgc hbn
  have c1 := B1.cell' (i := 1) rfl
  have f1 := B1.frozen 1
  have hown2 : w1.ownsRow 0 110 1 v1 (ts ++ [Value.slice A xl xc]).length (ts ++ [Value.slice A xl xc]) := by
    rw [List.length_append]
    exact hown
  obtain ⟨g, cap, rest, hv1, hg, hblk, hcap⟩ := own_form hown (by simp)
  have B2 := B1.set_ 1 v1
  have hgb : v1.ownBlock ≠ some b := by
    rcases hat with h1 | h1
    · rw [h1]; exact HP.out.ne.2.1
    · rw [h1]; intro e; injection e with e; have := HP.out.blk.lt; omega
  have hvt : vc.ownBlock = none ∨ vc.ownBlock ≠ v1.ownBlock := by
    rcases hat with h1 | h1
    · rw [h1]; exact HP.out.ne.2.2
    · rw [h1]; right; intro e; have := ownsRow_lt HP.out.row e; omega
  have HP2 : Hid (Pl (w1.setCell ⟨b, 1, none⟩ v1) b cs (ts ++ [Value.slice A xl xc]) vc v1) := by
    refine ⟨B2, ownsRow_setCell_other (ownsRow_chg (ownsRow_chg HP.out.row ((Chg.refl w []).alloc _) (by simp)) hgc ?_) HP.out.ne.1 _, ownsRow_setCell_other hown2 hgb _, HP.out.ne.1, hgb, hvt⟩
    intro g' hg' hm
    simp [Option.mem_toList] at hm
    rcases HP.out.ne.2.2 with h2 | h2
    · rw [h2] at hg'; cases hg'
    · exact h2 (hg'.trans hm.symm)
  have HC2 : Hid (Chg w (w1.setCell ⟨b, 1, none⟩ v1) (own b vc vt)) :=
    ((((Chg.refl w (own b vc vt)).alloc _).trans hgc (D := own b vc vt) (fun k hk => .inl (mem_own.2 (.inr (.inr (by simpa using hk)))))).setCell _ _ (.inl (mem_own.2 (.inl rfl))))
  have hat' : v1.ownBlock = vt.ownBlock ∨ ∃ g, v1.ownBlock = some g ∧ w.heap.size ≤ g := hat.imp id (fun h => ⟨_, h, by simp⟩)
  clear hgr hown hbn hgc B1 B2 hgb hvt hown2 hblk hcap hg hat HB HP hrow hsl hal hone c0 hf0 h63 hby hL
  subst hv1
  have HF := hide hat'
  clear hat'
  go_wp2
  go_ret
  exact ⟨ret_int (by omega), _, HP2.out, HC2.out, HF.out⟩

set_option maxRecDepth 100000 in
set_option maxHeartbeats 1000000 in
theorem at_calls (b k i : Nat) (l : List Wd) (v : Value) (cs : List Wd) (ts : List Value) (vc vt : Value) (w : World) (h : Pl w b cs ts vc vt) (hk : ts[k]? = some v) (hv : Sl w v (wds l)) (hi : i < l.length) (hb : ts.length ≤ 1000) (hl : l.length ≤ 1000) :
    Calls Tryz.prog 198 #[.pointer (some ⟨b, 0, none⟩), .int .i64 k, .int .i32 i] w fun e w' => e = .returned (.int .i32 (l[i]).v) ∧ Chg w w' [] := by
  obtain ⟨g, cap, hvt, hc, hf⟩ := row_at h.tab hk
  have c0 := h.blk.cell' (i := 1) rfl
  rw [hvt] at c0
  have hkl : k < ts.length := (List.getElem?_eq_some_iff.1 hk).1
  have hlt : ((k : Nat) : Int) < (ts.length : Int) := by omega
  obtain ⟨A, c, hv2, hcap, _⟩ := id hv
  rw [length_wds] at hv2 hcap
  rw [hv2] at hc hv
  obtain ⟨gb, off, hA, hca, _⟩ := hv.at_ (wds_at l i hi)
  subst hA
  have hlt2 : ((i : Nat) : Int) < (l.length : Int) := by omega
  have hlt3 : ¬ ((l.length : Nat) : Int) ≤ (i : Int) := by omega
  have HC := hide (Chg.refl w [])
  generalize l[i] = x at *
  clear h hvt hf hk hv hv2 hcap
  go_enter Tryz.func198, Tryz.ntmps198
  go_wp2
  go_ret
  exact ⟨rfl, HC.out⟩
set_option maxRecDepth 100000 in
theorem numbers_calls (w : World) :
    Calls Tryz.prog 49 #[] w fun e w' => ∃ b, e = .returned (.agg #[.iface 152 (.pointer (some ⟨b, 0, none⟩))]) ∧ Pl w' b [] [] (.slice none 0 0) (.slice none 0 0) ∧ Chg w w' [] ∧ w.heap.size ≤ b := by
  go_enter Tryz.func49, Tryz.ntmps49
  go_wp2
  have k0 := (Blk.new w 106 [.iface 152 (.pointer (some ⟨w.heap.size + 1, 0, none⟩))]).alloc (.cells #[.slice none 0 0, .slice none 0 0] 155)
  have k1 := Blk.new (w.alloc (.cells #[.iface 152 (.pointer (some ⟨w.heap.size + 1, 0, none⟩))] 106)) 155 [.slice none 0 0, .slice none 0 0]
  rw [size_alloc] at k1
  have c0 := k0.cell' (i := 0) rfl
  refine bodyPost_ret (v := .agg #[.iface 152 (.pointer (some ⟨w.heap.size + 1, 0, none⟩))]) (by simp [results, Tryz.f49, go_sem, c0]) rfl ⟨w.heap.size + 1, rfl, ⟨k1, World.ownsRow_nil _ _ _ _, World.ownsRow_nil _ _ _ _, by simp [Value.ownBlock], by simp [Value.ownBlock], .inl rfl⟩, ((Chg.refl w []).alloc _).alloc _, by omega⟩
end Go.Proofs.YtihgijhjhmjolaaGreatDoor

/- Regions by slots, for walks that use the mill of numbers at block b. -/
namespace Go.Proofs.YtihgijhjhmjolaaGreatDoor
open Go.RowKit Go.Deep
set_option linter.unusedVariables false
/-- The blocks of the mill at b, as the world tells them. -/
def dof (w : World) (b : Nat) : List Nat := own b (cellAt w ⟨b, 0, none⟩) (cellAt w ⟨b, 1, none⟩)
section
variable {w w' w'' : World} {b : Nat} {cs : List Wd} {ts : List Value} {vc vt : Value}
theorem Pl.dof (h : Pl w b cs ts vc vt) : dof w b = own b vc vt := by
  unfold Proofs.YtihgijhjhmjolaaGreatDoor.dof
  rw [cellAt_is (h.blk.cell' (i := 0) rfl), cellAt_is (h.blk.cell' (i := 1) rfl)]
/-- The mill at b holds cells and tables of which R tells. -/
def PlR (w : World) (b : Nat) (R : List Wd → List Value → Prop) : Prop := ∃ cs ts vc vt, R cs ts ∧ Pl w b cs ts vc vt
/-- At most n cells, and tables. -/
def most (n : Nat) (cs : List Wd) (ts : List Value) : Prop := cs.length ≤ n ∧ ts.length ≤ n
theorem PlR.lt {R : List Wd → List Value → Prop} (h : PlR w b R) : ∀ k ∈ Proofs.YtihgijhjhmjolaaGreatDoor.dof w b, k < w.heap.size := by
  obtain ⟨cs, ts, vc, vt, _, h⟩ := h
  rw [h.dof]; exact h.lt
theorem PlR.mem {R : List Wd → List Value → Prop} (h : PlR w b R) : b ∈ Proofs.YtihgijhjhmjolaaGreatDoor.dof w b := by unfold Proofs.YtihgijhjhmjolaaGreatDoor.dof own; simp
/-- A piece of work on the mill at b. -/
structure Turn (w : World) (b : Nat) (w' : World) : Prop where
  chg : Chg w w' (Proofs.YtihgijhjhmjolaaGreatDoor.dof w b)
  sub : ∀ k ∈ Proofs.YtihgijhjhmjolaaGreatDoor.dof w' b, k ∈ Proofs.YtihgijhjhmjolaaGreatDoor.dof w b ∨ w.heap.size ≤ k
theorem Turn.refl (w : World) (b : Nat) : Turn w b w := ⟨Chg.refl _ _, fun k h => .inl h⟩
theorem Turn.trans (h : Turn w b w') (h' : Turn w' b w'') : Turn w b w'' :=
  ⟨h.chg.trans h'.chg h.sub, fun k hk => by
    rcases h'.sub k hk with h1 | h1
    · exact h.sub k h1
    · have := h.chg.size; right; omega⟩
theorem dof_chg {D : List Nat} {R : List Wd → List Value → Prop} (h : PlR w b R) (hc : Chg w w' D) (hb : b ∉ D) : Proofs.YtihgijhjhmjolaaGreatDoor.dof w' b = Proofs.YtihgijhjhmjolaaGreatDoor.dof w b := by
  obtain ⟨cs, ts, vc, vt, _, h⟩ := h
  have hb' := h.blk.chg hc hb
  rw [h.dof]
  unfold Proofs.YtihgijhjhmjolaaGreatDoor.dof
  rw [cellAt_is (hb'.cell' (i := 0) rfl), cellAt_is (hb'.cell' (i := 1) rfl)]
theorem PlR.chg {D : List Nat} {R : List Wd → List Value → Prop} (h : PlR w b R) (hc : Chg w w' D) (hD : ∀ k ∈ Proofs.YtihgijhjhmjolaaGreatDoor.dof w b, k ∉ D) : PlR w' b R := by
  obtain ⟨cs, ts, vc, vt, hr, h⟩ := h
  exact ⟨cs, ts, vc, vt, hr, h.chg hc (by rw [← h.dof]; exact hD)⟩
theorem PlR.mono {R R' : List Wd → List Value → Prop} (h : PlR w b R) (hR : ∀ cs ts, R cs ts → R' cs ts) : PlR w b R' := by
  obtain ⟨cs, ts, vc, vt, hr, h⟩ := h
  exact ⟨cs, ts, vc, vt, hR _ _ hr, h⟩
theorem Turn.call {R : List Wd → List Value → Prop} (h : PlR w b R) (hc : Chg w w' []) : Turn w b w' :=
  ⟨hc.more (by simp), fun k hk => .inl (by rw [← dof_chg h hc (by simp)]; exact hk)⟩
theorem Turn.to_chg {w0 : World} (h : Turn w b w') (hc : Chg w0 w []) (hb : ∀ k ∈ Proofs.YtihgijhjhmjolaaGreatDoor.dof w b, w0.heap.size ≤ k) : Chg w0 w' [] := hc.trans h.chg (fun k hk => .inr (hb k hk))
/-- What Cell, Table and Set leave. -/
theorem turn_of {vc' vt' : Value} {cs' : List Wd} {ts' : List Value} (h : Pl w b cs ts vc vt) (h' : Pl w' b cs' ts' vc' vt') (hc : Chg w w' (own b vc vt))
    (h1 : vc'.ownBlock = vc.ownBlock ∨ ∃ g, vc'.ownBlock = some g ∧ w.heap.size ≤ g) (h2 : vt'.ownBlock = vt.ownBlock ∨ ∃ g, vt'.ownBlock = some g ∧ w.heap.size ≤ g) : Turn w b w' := by
  refine ⟨by rw [h.dof]; exact hc, fun k hk => ?_⟩
  rw [h'.dof] at hk
  rw [h.dof]
  rcases mem_own.1 hk with rfl | hk | hk
  · exact .inl (mem_own.2 (.inl rfl))
  · rcases h1 with h1 | ⟨g, hg, hle⟩
    · exact .inl (mem_own.2 (.inr (.inl (h1 ▸ hk))))
    · rw [hg] at hk; injection hk with hk; subst hk; exact .inr hle
  · rcases h2 with h2 | ⟨g, hg, hle⟩
    · exact .inl (mem_own.2 (.inr (.inr (h2 ▸ hk))))
    · rw [hg] at hk; injection hk with hk; subst hk; exact .inr hle
end

/-- The mill at b has come through k pieces of work since w6; the cells hold what they held. -/
structure Sp (w6 : World) (b : Nat) (R : Nat → List Wd → List Value → Prop) (D : List Nat) (cells : List (Addr × Value)) (k : Nat) (w : World) : Prop where
  pl : PlR w b (R k)
  chg : Chg w6 w (dof w6 b ++ D)
  sub : ∀ j ∈ dof w b, j ∈ dof w6 b ∨ w6.heap.size ≤ j
  cell : ∀ p ∈ cells, w.cell? p.1 = some p.2
def Fp (w6 : World) (b : Nat) (D U : List Nat) (w : World) (g : Nat) : Prop := g ∉ U ∧ g ∉ dof w b ∧ (g ∈ D ∨ w6.heap.size ≤ g)
section
variable {w6 w w' : World} {b k : Nat} {R : Nat → List Wd → List Value → Prop} {D U : List Nat} {cells : List (Addr × Value)}
theorem Sp.at_ (h : Sp w6 b R D cells k w) (i : Nat) (a : Addr) (v : Value) (hi : cells[i]? = some (a, v)) : w.cell? a = some v :=
  h.cell (a, v) (List.mem_of_getElem? hi)
theorem Sp.call (h : Sp w6 b R D cells k w) (hc : Chg w w' []) : Sp w6 b R D cells k w' :=
  ⟨h.pl.chg hc (by simp), h.chg.trans hc (by simp), by rw [dof_chg h.pl hc (by simp)]; exact h.sub, fun p hp => hc.cell (h.cell p hp) (by simp)⟩
/-- Of the mill's own blocks none is one that S knows. -/
structure Apart (w6 : World) (b : Nat) (D U : List Nat) (cells : List (Addr × Value)) : Prop where
  cell : ∀ p ∈ cells, p.1.block ∈ U
  lt : ∀ u ∈ U, u < w6.heap.size
  own : ∀ u ∈ U, u ∉ dof w6 b
  old : ∀ d ∈ D, d < w6.heap.size ∧ d ∉ dof w6 b
theorem Sp.apart (h : Sp w6 b R D cells k w) (ha : Apart w6 b D U cells) : ∀ u ∈ U, u ∉ dof w b := fun u hu hm => by
  rcases h.sub u hm with h1 | h1
  · exact ha.own u hu h1
  · have := ha.lt u hu; omega
theorem Sp.eff (h : Sp w6 b R D cells k w) (ha : Apart w6 b D U cells) (hp : PlR w' b (R (k + 1))) (ht : Turn w b w') : Sp w6 b R D cells (k + 1) w' := by
  refine ⟨hp, h.chg.trans ht.chg (fun j hj => ?_), fun j hj => ?_, fun p hp => ht.chg.cell (h.cell p hp) (h.apart ha _ (ha.cell p hp))⟩
  · rcases h.sub j hj with h1 | h1
    · exact .inl (List.mem_append_left _ h1)
    · exact .inr h1
  · rcases ht.sub j hj with h1 | h1
    · exact h.sub j h1
    · have := h.chg.size; right; omega
theorem Reg.keep_callp (r : Reg) (hF : r.F = Fp w6 b D U) (h : Sp w6 b R D cells k w) (hc : Chg w w' []) : r.Keep w w' :=
  ⟨hc.size, fun g hg hf => ⟨by rw [hF] at hf ⊢; exact ⟨hf.1, by rw [dof_chg h.pl hc (by simp)]; exact hf.2.1, hf.2.2⟩, hc.block g hg (by simp)⟩⟩
theorem Reg.keep_eff (r : Reg) (hF : r.F = Fp w6 b D U) (ht : Turn w b w') : r.Keep w w' :=
  ⟨ht.chg.size, fun g hg hf => by
    rw [hF] at hf ⊢
    refine ⟨⟨hf.1, fun hm => ?_, hf.2.2⟩, ht.chg.block g hg hf.2.1⟩
    rcases ht.sub g hm with h1 | h1
    · exact hf.2.1 h1
    · omega⟩
theorem stands_p (r : Reg) (ha : Apart w6 b D U cells) (hS : r.S = Sp w6 b R D cells) (hF : r.F = Fp w6 b D U) (hB : r.B = 0) : r.Stands := by
  refine ⟨fun n w o h => ?_, fun n w o g h hf => ?_, fun n w o h => ?_, fun n w w' g h hf _ _ hc hsz => ?_⟩
  · rw [hS] at h ⊢; exact h.call ((Chg.refl w []).alloc o)
  · rw [hS] at h; rw [hF] at hf ⊢
    exact ⟨hf.1, by rw [dof_chg h.pl ((Chg.refl w []).alloc o) (by simp)]; exact hf.2.1, hf.2.2⟩
  · rw [hS] at h
    rw [hF, hB]
    have := h.chg.size
    refine ⟨⟨fun hu => ?_, fun hm => ?_, .inr this⟩, Nat.zero_le _⟩
    · have := ha.lt _ hu; omega
    · rw [dof_chg h.pl ((Chg.refl w []).alloc o) (by simp)] at hm
      have := h.pl.lt _ hm; omega
  · rw [hS] at h ⊢
    rw [hF] at hf ⊢
    have hbg : b ∉ [g] := fun hm => by
      simp at hm; subst hm; exact hf.2.1 h.pl.mem
    have hd := dof_chg h.pl hc hbg
    refine ⟨⟨h.pl.chg hc (fun j hj hm => by simp at hm; subst hm; exact hf.2.1 hj), h.chg.trans hc ?_, by rw [hd]; exact h.sub, fun p hp => ?_⟩, fun g' h' => ⟨h'.1, by rw [hd]; exact h'.2.1, h'.2.2⟩⟩
    · intro j hj
      simp at hj
      subst hj
      exact hf.2.2.imp (fun h => List.mem_append_right _ h) id
    · exact hc.cell (h.cell p hp) (by simp; intro e; exact hf.1 (e ▸ ha.cell p hp))
theorem Sp.turn_far {u : Nat} (h : Sp w6 b R D cells k w) (hlt : u < w6.heap.size) (hu : u ∉ dof w6 b) : u ∉ dof w b := fun hm => by
  rcases h.sub u hm with h1 | h1
  · exact hu h1
  · omega
theorem Sp.turn (h : Sp w6 b R [] cells k w) : Turn w6 b w := ⟨by simpa using h.chg, h.sub⟩
end
theorem Turn.region {w0 w6 w : World} {b k : Nat} {R : Nat → List Wd → List Value → Prop} {D : List Nat} {cells : List (Addr × Value)} (ht : Turn w0 b w6) (h : Sp w6 b R D cells k w) (hD : ∀ d ∈ D, w0.heap.size ≤ d) : Turn w0 b w := by
  refine ⟨ht.chg.trans h.chg (fun j hj => ?_), fun j hj => ?_⟩
  · rcases List.mem_append.1 hj with h1 | h1
    · exact ht.sub j h1
    · exact .inr (hD j h1)
  · rcases h.sub j hj with h1 | h1
    · exact ht.sub j h1
    · have := ht.chg.size; right; omega
/-- A further region: what both leave. -/
theorem Sp.region {wb w6 w : World} {b k j : Nat} {R R' : Nat → List Wd → List Value → Prop} {D : List Nat} {cs cells : List (Addr × Value)} (h : Sp wb b R D cs j w6) (h' : Sp w6 b R' D cells k w) (hD : ∀ d ∈ D, d ∈ D) : Sp wb b R' D [] k w := by
  refine ⟨h'.pl, h.chg.trans h'.chg (fun i hi => ?_), fun i hi => ?_, by simp⟩
  · rcases List.mem_append.1 hi with h1 | h1
    · rcases h.sub i h1 with h2 | h2
      · exact .inl (List.mem_append_left _ h2)
      · exact .inr h2
    · exact .inl (List.mem_append_right _ h1)
  · rcases h'.sub i hi with h1 | h1
    · exact h.sub i h1
    · have := h.chg.size; right; omega
theorem Sp.with_ {wb w : World} {b k : Nat} {R : Nat → List Wd → List Value → Prop} {D : List Nat} {cells : List (Addr × Value)} (h : Sp wb b R D [] k w) (hc : ∀ p ∈ cells, w.cell? p.1 = some p.2) : Sp wb b R D cells k w :=
  ⟨h.pl, h.chg, h.sub, hc⟩
theorem Sp.here {w6 : World} {b : Nat} {R : Nat → List Wd → List Value → Prop} {D : List Nat} {cells : List (Addr × Value)} (hp : PlR w6 b (R 0)) (hc : ∀ p ∈ cells, w6.cell? p.1 = some p.2) : Sp w6 b R D cells 0 w6 :=
  ⟨hp, Chg.refl w6 _, fun j hj => .inl hj, hc⟩
theorem Turn.put {w0 w w' : World} {b g : Nat} {R : List Wd → List Value → Prop} (h : Turn w0 b w) (hp : PlR w b R) (hc : Chg w w' [g]) (hg : g ∉ dof w b) (hle : w0.heap.size ≤ g) : Turn w0 b w' := by
  have hb : b ∉ [g] := fun hm => by simp at hm; subst hm; exact hg hp.mem
  refine ⟨h.chg.trans hc (fun k hk => by simp at hk; subst hk; exact .inr hle), fun k hk => ?_⟩
  rw [dof_chg hp hc hb] at hk
  exact h.sub k hk
theorem Sp.start {w6 : World} {b : Nat} {R : Nat → List Wd → List Value → Prop} {D : List Nat} {cells : List (Addr × Value)} (hp : PlR w6 b (R 0)) (hc : ∀ p ∈ cells, w6.cell? p.1 = some p.2) : Sp w6 b R D cells 0 w6.drew :=
  ⟨hp.chg (Chg.refl w6 []).drew (by simp), (Chg.refl w6 _).drew, fun j hj => .inl hj, hc⟩
theorem far_of {w w6 : World} {b : Nat} {R : List Wd → List Value → Prop} (hp : PlR w b R) (hc : Chg w w6 []) : ∀ u, w.heap.size ≤ u → u ∉ dof w6 b := fun u hu hm => by
  rw [dof_chg hp hc (by simp)] at hm
  have := hp.lt u hm
  omega
theorem Turn.far {w w' : World} {b u : Nat} (ht : Turn w b w') (hu : u < w.heap.size) (h : u ∉ dof w b) : u ∉ dof w' b := fun hm => by
  rcases ht.sub u hm with h1 | h1
  · exact h h1
  · omega
theorem Turn.cell {w w' : World} {b : Nat} {a : Addr} {v : Value} (ht : Turn w b w') (hc : w.cell? a = some v) (h : a.block ∉ dof w b) : w'.cell? a = some v := ht.chg.cell hc h
theorem nil_cell (p : Addr) (w : World) : (nilAhead 372 152 (.pointer (some p)) "Cell").run Tryz.prog w = .ok (some false) w := by kernel_rfl
theorem meth_cell (p : Addr) (w : World) : (method 372 152 (.pointer (some p)) "Cell").run Tryz.prog w = .ok (199, .pointer (some p)) w := by kernel_rfl
theorem nil_get (p : Addr) (w : World) : (nilAhead 372 152 (.pointer (some p)) "Get").run Tryz.prog w = .ok (some false) w := by kernel_rfl
theorem meth_get (p : Addr) (w : World) : (method 372 152 (.pointer (some p)) "Get").run Tryz.prog w = .ok (203, .pointer (some p)) w := by kernel_rfl
theorem nil_set (p : Addr) (w : World) : (nilAhead 372 152 (.pointer (some p)) "Set").run Tryz.prog w = .ok (some false) w := by kernel_rfl
theorem meth_set (p : Addr) (w : World) : (method 372 152 (.pointer (some p)) "Set").run Tryz.prog w = .ok (205, .pointer (some p)) w := by kernel_rfl
theorem nil_loop (p : Addr) (w : World) : (nilAhead 372 152 (.pointer (some p)) "Loop").run Tryz.prog w = .ok (some false) w := by kernel_rfl
theorem meth_loop (p : Addr) (w : World) : (method 372 152 (.pointer (some p)) "Loop").run Tryz.prog w = .ok (204, .pointer (some p)) w := by kernel_rfl
theorem nil_table (p : Addr) (w : World) : (nilAhead 372 152 (.pointer (some p)) "Table").run Tryz.prog w = .ok (some false) w := by kernel_rfl
theorem meth_table (p : Addr) (w : World) : (method 372 152 (.pointer (some p)) "Table").run Tryz.prog w = .ok (206, .pointer (some p)) w := by kernel_rfl
theorem nil_at (p : Addr) (w : World) : (nilAhead 372 152 (.pointer (some p)) "At").run Tryz.prog w = .ok (some false) w := by kernel_rfl
theorem meth_at (p : Addr) (w : World) : (method 372 152 (.pointer (some p)) "At").run Tryz.prog w = .ok (198, .pointer (some p)) w := by kernel_rfl
end Go.Proofs.YtihgijhjhmjolaaGreatDoor
