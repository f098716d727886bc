/- The mill of numbers: its cells and tables. -/
import Derived.Test.YtkfkoobdmnndcaaGreatWorks1
import Derived.OneCell
namespace Go.Proofs.YtkfkoobdmnndcaaGreat
open Go.RowKit Go.Deep
set_option linter.unusedVariables false
/-- Plain at block b holds the cells cs and the tables' slices vs, each of which reads as words. -/
structure Pl (w : World) (b : Nat) (cs : List Wd) (ts : List Value) (vc vt : Value) : Prop where
  blk : Blk w b 63 [vc, vt]
  row : w.ownsRow 0 21 1 vc cs.length (wds cs)
  tab : w.ownsRow 0 60 1 vt ts.length ts
  ne : vc.ownBlock ≠ some b ∧ vt.ownBlock ≠ some b ∧ (vc.ownBlock = none ∨ vc.ownBlock ≠ vt.ownBlock)
set_option maxRecDepth 100000 in
set_option maxHeartbeats 1000000 in
theorem loop_calls (p : Value) (f : FuncId) (caps : Array Value) (n : Nat) (hn : n ≤ 1000) (I : Nat → World → Prop) (w : World)
    (hf : ∀ (x : Value) (w : World), Sem.run Tryz.prog (callFunc f (#[x] ++ caps)) w = Result.ok (Next.enter f (#[x] ++ caps)) w)
    (h : ∀ i w, i < n → I i w → Calls Tryz.prog f (#[.int .i32 i] ++ caps) w fun e w' => e = .returned (.tuple #[]) ∧ I (i + 1) w') (h0 : I 0 w) :
    Calls Tryz.prog 143 #[p, .int .i64 n, .func (.func f) #[] caps] w fun e w' => e = .returned (.tuple #[]) ∧ I n w' := by
  have H := hide h
  clear h
  have H0 := hide h0
  clear h0
  go_enter Tryz.func143, Tryz.ntmps143
  go_wp2
  go_loopw [8] (fun i wr => ∃ k : Nat, k ≤ n ∧ i = .int .i64 k ∧ Hid (I k wr)) (fun i _ => n - (intOf i).toNat)
  case atStart => exact ⟨0, Nat.zero_le _, rfl, H0⟩
  case round =>
    obtain ⟨k, hk, rfl, HI⟩ := hrel
    by_cases hlt : k < n
    · go_wp2_with fail
      refine (H.out k _ hlt HI.out).mono ?_
      rintro e w1 ⟨rfl, hI⟩
      have HI2 := hide hI
      clear hI
      go_wp2
      go_roundw
      case rel => exact ⟨k + 1, by omega, by go_num, HI2⟩
      case measure => simp [intOf]; omega
    · have hk : k = n := by omega
      subst hk
      go_wp2
      go_end0
      exact ⟨rfl, HI.out⟩

theorem info_parts {t : TypeId} {z : Value} {n m : Nat} (h : (Tryz.prog.info? t).map (fun i => (i.zero, i.size, i.bytes)) = some (some z, n, m)) :
    ∃ i0, Tryz.prog.info? t = some i0 ∧ i0.zero = some z ∧ i0.size = n ∧ i0.bytes = m := by
  cases hi : Tryz.prog.info? t with
  | none => rw [hi] at h; cases h
  | some i => rw [hi] at h; simp only [Option.map_some, Option.some.injEq, Prod.mk.injEq] at h; exact ⟨i, rfl, h.1, h.2.1, h.2.2⟩
theorem info_i32_0 : (Tryz.prog.info? 21).map (fun i => (i.zero, i.size, i.bytes)) = some (some (.int .i32 0), 1, 4) := by kernel_rfl
/-- A row of the mill's, at cell k. -/
theorem row_at {w : World} {e : TypeId} {v : Value} {n : Nat} {xs : List Value} (h : w.ownsRow 0 e 1 v n xs) {k : Nat} {u : Value} (hk : xs[k]? = some u) :
    ∃ g cap, v = .slice (some ⟨g, 0, none⟩) n cap ∧ w.cell? ⟨g, k, none⟩ = some u ∧ w.frozen? ⟨g, k, none⟩ = false := by
  have hl := h.1
  have hkl : k < xs.length := (List.getElem?_eq_some_iff.1 hk).1
  rcases h.2 with ⟨rfl, h0⟩ | ⟨g, cap, cur, rfl, h1, h2, h3, h4, h5, h6⟩
  · omega
  · refine ⟨g, cap, rfl, ?_, by simp [World.frozen?, h2]⟩
    have := h.cells (g := g) rfl k u hk
    rwa [add_plain, Nat.zero_add] at this
set_option maxRecDepth 100000 in
set_option maxHeartbeats 1000000 in
theorem get_calls (b k : Nat) (cs : List Wd) (ts : List Value) (vc vt : Value) (w : World) (h : Pl w b cs ts vc vt) (hk : k < cs.length) (hb : cs.length ≤ 1000) :
    Calls Tryz.prog 142 #[.pointer (some ⟨b, 0, none⟩), .int .i64 k] w fun e w' => e = .returned (.int .i32 (cs[k]).v) ∧ Chg w w' [] := by
  obtain ⟨g, cap, hv, hc, hf⟩ := row_at h.row (wds_at cs k hk)
  have c0 := h.blk.cell' (i := 0) rfl
  rw [hv] at c0
  have hlt : ((k : Nat) : Int) < (cs.length : Int) := by omega
  have HC := hide (Chg.refl w [])
  generalize cs[k] = x at *
  clear h hv hf hk
  go_enter Tryz.func142, Tryz.ntmps142
  go_wp2
  go_ret
  exact ⟨rfl, HC.out⟩

/-- The mill's own blocks. -/
theorem one_wds (l : List Wd) : ∀ v ∈ wds l, v.oneCell' = true := by
  intro v hv
  obtain ⟨z, _, rfl⟩ := List.mem_map.1 hv
  rfl
def own (b : Nat) (vc vt : Value) : List Nat := b :: (vc.ownBlock.toList ++ vt.ownBlock.toList)
theorem mem_own {b : Nat} {vc vt : Value} {k : Nat} : k ∈ own b vc vt ↔ k = b ∨ vc.ownBlock = some k ∨ vt.ownBlock = some k := by
  unfold own; simp [Option.mem_toList]
theorem ownsRow_chg {w w' : World} {D : List Nat} {base : Nat} {e : TypeId} {size : Nat} {v : Value} {n : Nat} {xs : List Value} (h : w.ownsRow base e size v n xs) (hc : Chg w w' D) (hD : ∀ g, v.ownBlock = some g → g ∉ D) : w'.ownsRow base e size v n xs := by
  refine ⟨h.1, ?_⟩
  rcases h.2 with h0 | ⟨g, cap, cur, rfl, h1, h2, h3⟩
  · exact .inl h0
  · exact .inr ⟨g, cap, cur, rfl, h1, hc.heap h2 (hD g rfl), h3⟩
theorem ownsRow_set {w : World} {base : Nat} {e : TypeId} {v : Value} {n g c k : Nat} {xs : List Value} (h : w.ownsRow base e 1 v n xs) (hv : v = .slice (some ⟨g, 0, none⟩) n c) (hk : k < n) (u : Value) : (w.setCell ⟨g, k, none⟩ u).ownsRow base e 1 v n (xs.set k u) := by
  refine ⟨by simpa using h.1, ?_⟩
  rcases h.2 with ⟨h0, _⟩ | ⟨g', cap, cur, h0, h1, h2, h3, h4, h5, h6⟩
  · rw [hv] at h0; cases h0
  · rw [hv] at h0
    injection h0 with hg _ hcap
    injection hg with hg
    injection hg with hg _ _
    subst hg hcap
    refine .inr ⟨g, c, cur.setIfInBounds k u, hv, h1, ?_, h3, h4, by simpa using h5, ?_⟩
    · simp [World.setCell, Array.getElem?_modify, h2]
    · rw [← h6]
      simp [List.take_set]
theorem ownsRow_lt {w : World} {base : Nat} {e : TypeId} {size : Nat} {v : Value} {n : Nat} {xs : List Value} (h : w.ownsRow base e size v n xs) {g : Nat} (hg : v.ownBlock = some g) : g < w.heap.size := by
  rcases h.2 with ⟨rfl, _⟩ | ⟨g', cap, cur, rfl, _, h2, _⟩
  · cases hg
  · injection hg with hg; subst hg; exact lt_of_heap h2
theorem Pl.chg {w w' : World} {b : Nat} {cs : List Wd} {ts : List Value} {vc vt : Value} {D : List Nat} (h : Pl w b cs ts vc vt) (hc : Chg w w' D) (hD : ∀ k ∈ own b vc vt, k ∉ D) : Pl w' b cs ts vc vt :=
  ⟨h.blk.chg hc (hD b (mem_own.2 (.inl rfl))), ownsRow_chg h.row hc (fun g hg => hD g (mem_own.2 (.inr (.inl hg)))), ownsRow_chg h.tab hc (fun g hg => hD g (mem_own.2 (.inr (.inr hg)))), h.ne⟩
theorem Pl.lt {w : World} {b : Nat} {cs : List Wd} {ts : List Value} {vc vt : Value} (h : Pl w b cs ts vc vt) : ∀ k ∈ own b vc vt, k < w.heap.size := fun k hk => by
  rcases mem_own.1 hk with rfl | hk | hk
  · exact h.blk.lt
  · exact ownsRow_lt h.row hk
  · exact ownsRow_lt h.tab hk

set_option maxRecDepth 100000 in
set_option maxHeartbeats 1000000 in
theorem set_calls (b k : Nat) (x : Wd) (cs : List Wd) (ts : List Value) (vc vt : Value) (w : World) (h : Pl w b cs ts vc vt) (hk : k < cs.length) (hb : cs.length ≤ 1000) :
    Calls Tryz.prog 144 #[.pointer (some ⟨b, 0, none⟩), .int .i64 k, .int .i32 x.v] w fun e w' => e = .returned (.tuple #[]) ∧ Pl w' b (cs.set k x) ts vc vt ∧ Chg w w' (own b vc vt) := by
  obtain ⟨g, cap, hv, hc, hf⟩ := row_at h.row (wds_at cs k hk)
  have c0 := h.blk.cell' (i := 0) rfl
  rw [hv] at c0
  have hlt : ((k : Nat) : Int) < (cs.length : Int) := by omega
  have hgb : g ≠ b := fun e => h.ne.1 (by rw [hv, e]; rfl)
  have hgt : vt.ownBlock ≠ some g := fun e => by
    rcases h.ne.2.2 with h1 | h1
    · rw [hv] at h1; cases h1
    · exact h1 (by rw [hv, e]; rfl)
  have HP : Hid (Pl (w.setCell ⟨g, k, none⟩ (.int .i32 x.v)) b (cs.set k x) ts vc vt) := by
    refine ⟨h.blk.far (Ne.symm hgb) _, ?_, ownsRow_setCell_other h.tab hgt _, h.ne⟩
    have := ownsRow_set h.row hv hk (.int .i32 x.v)
    simpa [wds, List.map_set] using this
  have HC : Hid (Chg w (w.setCell ⟨g, k, none⟩ (.int .i32 x.v)) (own b vc vt)) := (Chg.refl w _).setCell _ _ (.inl (mem_own.2 (.inr (.inl (by rw [hv]; rfl)))))
  generalize cs[k] = y at *
  clear h hv hk hgb hgt
  go_enter Tryz.func144, Tryz.ntmps144
  go_wp2
  go_end0
  exact ⟨rfl, HP.out, HC.out⟩

set_option maxRecDepth 100000 in
set_option maxHeartbeats 1000000 in
theorem cell_calls (b : Nat) (x : Wd) (cs : List Wd) (ts : List Value) (vc vt : Value) (w : World) (h : Pl w b cs ts vc vt) (hb : cs.length ≤ 1000) :
    Calls Tryz.prog 138 #[.pointer (some ⟨b, 0, none⟩), .int .i32 x.v] w fun e w' => e = .returned (.int .i64 cs.length) ∧ ∃ vc', Pl w' b (cs ++ [x]) ts vc' vt ∧ Chg w w' (own b vc vt) ∧ (vc'.ownBlock = vc.ownBlock ∨ ∃ g, vc'.ownBlock = some g ∧ w.heap.size ≤ g) := by
  have c0 := h.blk.cell' (i := 0) rfl
  have hf0 := h.blk.frozen 0
  obtain ⟨i0, hi0, hz0, hz1, hz2⟩ := info_parts info_i32_0
  have HP := hide h
  have hal := (Chg.refl w []).alloc (.cells #[.int .i32 x.v] 21)
  have hrow := ownsRow_chg h.row hal (by simp)
  have hsl : Sl (w.alloc (.cells #[.int .i32 x.v] 21)) (.slice (some ⟨w.heap.size, 0, none⟩) 1 1) (wds [x]) := Sl.blk' (Blk.new w 21 [.int .i32 x.v]) rfl (Nat.le_refl _)
  have h63 : cs.length + (wds [x]).length ≤ maxLen := by unfold maxLen; simp [wds]; omega
  have hby : (cs.length + (wds [x]).length) * 4 ≤ 140737488355328 := by simp [wds]; omega
  have hL : cs.length + (wds [x]).length = cs.length + 1 := rfl
  have HB := hide (h.blk.alloc (.cells #[.int .i32 x.v] 21))
  clear h
  go_enter Tryz.func138, Tryz.ntmps138
  go_wp2_with (at_builtin; refine wpList_append_sl rfl (.tmp 9) (.tmp 11) 60 rfl 0 21 i0 (.int .i32 0) 4 Tryz.underlying60 hi0 hz0 hz1 hz2 rfl vc cs.length (wds cs) rfl hrow (.slice (some ⟨w.heap.size, 0, none⟩) 1 1) (wds [x]) rfl hsl (one_wds _) h63 hby (Nat.zero_le _) ?_)
  intro v1 w1 hown hgr hat
  have hbn : b ∉ vc.ownBlock.toList := by simp [Option.mem_toList]; exact HP.out.ne.1
  have hgc : Chg (w.alloc (.cells #[.int .i32 x.v] 21)) w1 vc.ownBlock.toList := Chg.of_grown hgr (fun k hk => .inl (by simp [hk]))
  have B1 : Blk w1 b 63 [vc, vt] := HB.out.chg hgc hbn
  have c1 := B1.cell' (i := 0) rfl
  have f1 := B1.frozen 0
  have hown2 : w1.ownsRow 0 21 1 v1 (cs ++ [x]).length (wds (cs ++ [x])) := by
    have : wds (cs ++ [x]) = wds cs ++ wds [x] := by simp [wds]
    rw [this, List.length_append]
    exact hown
  obtain ⟨g, cap, rest, hv1, hg, hblk, hcap⟩ := own_form hown (by simp)
  have B2 := B1.set_ 0 v1
  have hgb : v1.ownBlock ≠ some b := by
    rcases hat with h1 | h1
    · rw [h1]; exact HP.out.ne.1
    · rw [h1]; intro e; injection e with e; have := HP.out.blk.lt; omega
  have hvt : v1.ownBlock ≠ vt.ownBlock := by
    rcases hat with h1 | h1
    · rw [h1]
      rcases HP.out.ne.2.2 with h2 | h2
      · intro e; rw [← h1] at h2; rw [hv1] at h2; cases h2
      · exact h2
    · rw [h1]; intro e; have := ownsRow_lt HP.out.tab e.symm; omega
  have HP2 : Hid (Pl (w1.setCell ⟨b, 0, none⟩ v1) b (cs ++ [x]) ts v1 vt) := by
    refine ⟨B2, ownsRow_setCell_other hown2 hgb _, ownsRow_setCell_other (ownsRow_chg (ownsRow_chg HP.out.tab ((Chg.refl w []).alloc _) (by simp)) hgc ?_) HP.out.ne.2.1 _, hgb, HP.out.ne.2.1, .inr hvt⟩
    intro g' hg' hm
    simp [Option.mem_toList] at hm
    rcases HP.out.ne.2.2 with h2 | h2
    · rw [h2] at hm; cases hm
    · exact h2 (hm.trans hg'.symm)
  have HC2 : Hid (Chg w (w1.setCell ⟨b, 0, none⟩ v1) (own b vc vt)) :=
    ((((Chg.refl w (own b vc vt)).alloc _).trans hgc (D := own b vc vt) (fun k hk => .inl (mem_own.2 (.inr (.inl (by simpa using hk)))))).setCell _ _ (.inl (mem_own.2 (.inl rfl))))
  have hat' : v1.ownBlock = vc.ownBlock ∨ ∃ g, v1.ownBlock = some g ∧ w.heap.size ≤ g := hat.imp id (fun h => ⟨_, h, by simp⟩)
  clear hgr hown hbn hgc B1 B2 hgb hvt hown2 hblk hcap hg hat HB HP hrow hsl hal c0 hf0 h63 hby hL
  subst hv1
  have HF := hide hat'
  clear hat'
  go_wp2
  go_ret
  exact ⟨ret_int (by omega), _, HP2.out, HC2.out, HF.out⟩
theorem info_sl_0 : (Tryz.prog.info? 60).map (fun i => (i.zero, i.size, i.bytes)) = some (some (.slice none 0 0), 1, 24) := by kernel_rfl
set_option maxRecDepth 100000 in
set_option maxHeartbeats 1000000 in
theorem table_calls (b : Nat) (x : Value) (hx1 : x.oneCell' = true) (A : Option Addr) (xl xc : Nat) (hx : x = .slice A xl xc) (cs : List Wd) (ts : List Value) (vc vt : Value) (w : World) (h : Pl w b cs ts vc vt) (hb : ts.length ≤ 1000) :
    Calls Tryz.prog 145 #[.pointer (some ⟨b, 0, none⟩), x] w fun e w' => e = .returned (.int .i64 ts.length) ∧ ∃ vt', Pl w' b cs (ts ++ [x]) vc vt' ∧ Chg w w' (own b vc vt) ∧ (vt'.ownBlock = vt.ownBlock ∨ ∃ g, vt'.ownBlock = some g ∧ w.heap.size ≤ g) := by
  have c0 := h.blk.cell' (i := 1) rfl
  have hf0 := h.blk.frozen 1
  obtain ⟨i0, hi0, hz0, hz1, hz2⟩ := info_parts info_sl_0
  have HP := hide h
  subst hx
  have hone : ∀ u ∈ [Value.slice A xl xc], u.oneCell' = true := by simpa using hx1
  have hal := (Chg.refl w []).alloc (.cells #[Value.slice A xl xc] 60)
  have hrow := ownsRow_chg h.tab hal (by simp)
  have hsl : Sl (w.alloc (.cells #[Value.slice A xl xc] 60)) (.slice (some ⟨w.heap.size, 0, none⟩) 1 1) [Value.slice A xl xc] := Sl.blk' (Blk.new w 60 [Value.slice A xl xc]) rfl (Nat.le_refl _)
  have h63 : ts.length + [Value.slice A xl xc].length ≤ maxLen := by unfold maxLen; simp; omega
  have hby : (ts.length + [Value.slice A xl xc].length) * 24 ≤ 140737488355328 := by simp; omega
  have hL : ts.length + [Value.slice A xl xc].length = ts.length + 1 := rfl
  have HB := hide (h.blk.alloc (.cells #[Value.slice A xl xc] 60))
  clear h
  go_enter Tryz.func145, Tryz.ntmps145
  go_wp2_with (at_builtin; refine wpList_append_sl rfl (.tmp 9) (.tmp 11) 61 rfl 0 60 i0 (.slice none 0 0) 24 Tryz.underlying61 hi0 hz0 hz1 hz2 rfl vt ts.length ts rfl hrow (.slice (some ⟨w.heap.size, 0, none⟩) 1 1) [Value.slice A xl xc] rfl hsl hone h63 hby (Nat.zero_le _) ?_)
  intro v1 w1 hown hgr hat
  have hbn : b ∉ vt.ownBlock.toList := by simp [Option.mem_toList]; exact HP.out.ne.2.1
  have hgc : Chg (w.alloc (.cells #[Value.slice A xl xc] 60)) w1 vt.ownBlock.toList := Chg.of_grown hgr (fun k hk => .inl (by simp [hk]))
  have B1 : Blk w1 b 63 [vc, vt] := HB.out.chg hgc hbn
  have c1 := B1.cell' (i := 1) rfl
  have f1 := B1.frozen 1
  have hown2 : w1.ownsRow 0 60 1 v1 (ts ++ [Value.slice A xl xc]).length (ts ++ [Value.slice A xl xc]) := by
    rw [List.length_append]
    exact hown
  obtain ⟨g, cap, rest, hv1, hg, hblk, hcap⟩ := own_form hown (by simp)
  have B2 := B1.set_ 1 v1
  have hgb : v1.ownBlock ≠ some b := by
    rcases hat with h1 | h1
    · rw [h1]; exact HP.out.ne.2.1
    · rw [h1]; intro e; injection e with e; have := HP.out.blk.lt; omega
  have hvt : vc.ownBlock = none ∨ vc.ownBlock ≠ v1.ownBlock := by
    rcases hat with h1 | h1
    · rw [h1]; exact HP.out.ne.2.2
    · rw [h1]; right; intro e; have := ownsRow_lt HP.out.row e; omega
  have HP2 : Hid (Pl (w1.setCell ⟨b, 1, none⟩ v1) b cs (ts ++ [Value.slice A xl xc]) vc v1) := by
    refine ⟨B2, ownsRow_setCell_other (ownsRow_chg (ownsRow_chg HP.out.row ((Chg.refl w []).alloc _) (by simp)) hgc ?_) HP.out.ne.1 _, ownsRow_setCell_other hown2 hgb _, HP.out.ne.1, hgb, hvt⟩
    intro g' hg' hm
    simp [Option.mem_toList] at hm
    rcases HP.out.ne.2.2 with h2 | h2
    · rw [h2] at hg'; cases hg'
    · exact h2 (hg'.trans hm.symm)
  have HC2 : Hid (Chg w (w1.setCell ⟨b, 1, none⟩ v1) (own b vc vt)) :=
    ((((Chg.refl w (own b vc vt)).alloc _).trans hgc (D := own b vc vt) (fun k hk => .inl (mem_own.2 (.inr (.inr (by simpa using hk)))))).setCell _ _ (.inl (mem_own.2 (.inl rfl))))
  have hat' : v1.ownBlock = vt.ownBlock ∨ ∃ g, v1.ownBlock = some g ∧ w.heap.size ≤ g := hat.imp id (fun h => ⟨_, h, by simp⟩)
  clear hgr hown hbn hgc B1 B2 hgb hvt hown2 hblk hcap hg hat HB HP hrow hsl hal hone c0 hf0 h63 hby hL
  subst hv1
  have HF := hide hat'
  clear hat'
  go_wp2
  go_ret
  exact ⟨ret_int (by omega), _, HP2.out, HC2.out, HF.out⟩

set_option maxRecDepth 100000 in
set_option maxHeartbeats 1000000 in
theorem at_calls (b k i : Nat) (l : List Wd) (v : Value) (cs : List Wd) (ts : List Value) (vc vt : Value) (w : World) (h : Pl w b cs ts vc vt) (hk : ts[k]? = some v) (hv : Sl w v (wds l)) (hi : i < l.length) (hb : ts.length ≤ 1000) (hl : l.length ≤ 1000) :
    Calls Tryz.prog 137 #[.pointer (some ⟨b, 0, none⟩), .int .i64 k, .int .i32 i] w fun e w' => e = .returned (.int .i32 (l[i]).v) ∧ Chg w w' [] := by
  obtain ⟨g, cap, hvt, hc, hf⟩ := row_at h.tab hk
  have c0 := h.blk.cell' (i := 1) rfl
  rw [hvt] at c0
  have hkl : k < ts.length := (List.getElem?_eq_some_iff.1 hk).1
  have hlt : ((k : Nat) : Int) < (ts.length : Int) := by omega
  obtain ⟨A, c, hv2, hcap, _⟩ := id hv
  rw [length_wds] at hv2 hcap
  rw [hv2] at hc hv
  obtain ⟨gb, off, hA, hca, _⟩ := hv.at_ (wds_at l i hi)
  subst hA
  have hlt2 : ((i : Nat) : Int) < (l.length : Int) := by omega
  have hlt3 : ¬ ((l.length : Nat) : Int) ≤ (i : Int) := by omega
  have HC := hide (Chg.refl w [])
  generalize l[i] = x at *
  clear h hvt hf hk hv hv2 hcap
  go_enter Tryz.func137, Tryz.ntmps137
  go_wp2
  go_ret
  exact ⟨rfl, HC.out⟩
set_option maxRecDepth 100000 in
theorem numbers_calls (w : World) :
    Calls Tryz.prog 26 #[] w fun e w' => ∃ b, e = .returned (.agg #[.iface 59 (.pointer (some ⟨b, 0, none⟩))]) ∧ Pl w' b [] [] (.slice none 0 0) (.slice none 0 0) ∧ Chg w w' [] ∧ w.heap.size ≤ b := by
  go_enter Tryz.func26, Tryz.ntmps26
  go_wp2
  have k0 := (Blk.new w 40 [.iface 59 (.pointer (some ⟨w.heap.size + 1, 0, none⟩))]).alloc (.cells #[.slice none 0 0, .slice none 0 0] 63)
  have k1 := Blk.new (w.alloc (.cells #[.iface 59 (.pointer (some ⟨w.heap.size + 1, 0, none⟩))] 40)) 63 [.slice none 0 0, .slice none 0 0]
  rw [size_alloc] at k1
  have c0 := k0.cell' (i := 0) rfl
  refine bodyPost_ret (v := .agg #[.iface 59 (.pointer (some ⟨w.heap.size + 1, 0, none⟩))]) (by simp [results, Tryz.f26, go_sem, c0]) rfl ⟨w.heap.size + 1, rfl, ⟨k1, World.ownsRow_nil _ _ _ _, World.ownsRow_nil _ _ _ _, by simp [Value.ownBlock], by simp [Value.ownBlock], .inl rfl⟩, ((Chg.refl w []).alloc _).alloc _, by omega⟩
end Go.Proofs.YtkfkoobdmnndcaaGreat
