/- The core: goes, on, branch. -/
import Derived.Test.YtjfnpokebaagmaaGreatDoorCoreA
namespace Go.Proofs.YtjfnpokebaagmaaGreatDoor
open Go.RowKit Go.Deep Go.Maps
set_option linter.unusedVariables false
attribute [local go_sem] Oper.semAt_some
theorem info_mark : (Tryz.prog.info? 189).map (fun i => (i.zero, i.size, i.bytes)) = some (some (.agg #[.int .i64 0, .int .i64 0, .int .i64 0]), 3, 24) := by kernel_rfl
theorem three_new {w : World} {a b c : Value} {t : TypeId} : ∀ j u, [a, b, c][j]? = some u → ((w.alloc (.cells #[a, b, c] t)).drew).cell? ((⟨w.heap.size, 0, none⟩ : Addr).add j) = some u := by
 intro j u hj
 match j, hj with
 | 0, hj => simp at hj; subst hj; simp [Addr.add]
 | 1, hj => simp at hj; subst hj; simp [Addr.add]
 | 2, hj => simp at hj; subst hj; simp [Addr.add]
theorem three_one {a b c : Int} : ∀ u ∈ [Value.int .i64 a, .int .i64 b, .int .i64 c], u.oneCell' = true := by
 intro u hu
 simp at hu
 rcases hu with rfl | rfl | rfl <;> rfl
set_option maxRecDepth 100000 in
set_option maxHeartbeats 1000000 in
theorem goes_c_calls {w : World} {c : Nat} {bp cv mv : Value} {code : List (Ins5 × Bool)} {s : CS} (h : CB w c bp cv mv code s) (next addr cost : Int) (hm : s.marks.length ≤ 2000000) :
 Calls Tryz.prog 98 #[.pointer (some ⟨c, 0, none⟩), .int .i64 next, .int .i64 addr, .int .i64 cost] w fun e w' => (∃ v, e = .returned v) ∧ CoreP (goesC s next addr cost) c bp cv mv code w w' := by
 obtain ⟨i0, hi, hz0, hz1, hz2⟩ := info_parts info_mark
 have H := hide h
 obtain ⟨e34, e35, e36, e37⟩ := @cc_at bp cv mv s h.reg
 have c34 := h.blk.cell' e34
 have c37 := h.blk.cell' e37
 have f37 := h.blk.frozen 37
 have hbl := h.blk.lt
 obtain ⟨A, cc, rfl⟩ := own_slice h.rowM
 clear h e34 e35 e36 e37
 go_enter Tryz.func98, Tryz.ntmps98
 go_wp2
 go_region_law (refine step_append_lies _ rfl (.tmp 12) (.tmp 20) 84 rfl 0 189 i0 (.agg #[.int .i64 0, .int .i64 0, .int .i64 0]) 3 24 Tryz.underlying84 hi hz0 hz1 hz2 rfl (by decide) (.slice A s.marks.length cc) s.marks.length _ (by simp [Act.eval]) ((H.out.rowM.alloc _).drew) ⟨w.heap.size, 0, none⟩ 1 1 [.int .i64 s.pc, .int .i64 addr, .int .i64 cost] (by simp [Act.eval]) rfl three_new three_one (by decide) (by unfold maxLen; omega) (by omega) (Nat.zero_le _) _ rfl ?_; rintro g cap w4 hown hgr hg2 hg3; have hc4 : Chg w w4 (Value.slice A s.marks.length cc).ownBlock.toList := ((((Chg.refl w _).alloc _).drew).trans (Chg.of_grown hgr (fun k hk => .inl (by simp [hk]))) (fun k hk => .inl hk)); have hb4 := H.out.blk.chg hc4 (by simpa using fun e => H.out.ne.2.1 e); have y1 := hb4.cell' (@cc_at bp cv (.slice A s.marks.length cc) s H.out.reg).2.2.2; have y36 := hb4.cell' (@cc_at bp cv (.slice A s.marks.length cc) s H.out.reg).2.2.1; have yf := hb4.frozen 37; have yf34 := hb4.frozen 34; have yf36 := hb4.frozen 36; have y34 := hb4.cell' (@cc_at bp cv (.slice A s.marks.length cc) s H.out.reg).1; have yl := hb4.lt; have HB4 := hide hb4; have HC4 := hide hc4; have HO4 := hide hown; have hg2 := hg2.imp id (fun h => h.trans (size_alloc w (.cells #[.int .i64 s.pc, .int .i64 addr, .int .i64 cost] 189))); have HG4 := hide hg2; clear hown hgr hc4 hb4 hg2; skip)
 all_goals
  go_wp2
  refine bodyPost_end (results_none rfl _ _ _) rfl ?_
  obtain ⟨n1, n2, n3⟩ := H.out.ne
  have hgl : g < w4.heap.size := hg3
  have hbg : g ≠ c := fun e => by
   rcases HG4.out with h | h
   · exact n2 (by rw [h, e])
   · omega
  have hc5 : Chg w4 (((w4.setCell ⟨c, 37, none⟩ (.slice (some ⟨g, 0, none⟩) (s.marks.length + 1) cap)).setCell ⟨c, 34, none⟩ (.int .i64 next)).setCell ⟨c, 36, none⟩ (.int .i64 (wrap64 (s.cost + cost)))) [c] := (((Chg.refl w4 _).setCell _ _ (.inl (by simp))).setCell _ _ (.inl (by simp))).setCell _ _ (.inl (by simp))
  have hb6 := ((HB4.out.set_ 37 (.slice (some ⟨g, 0, none⟩) (s.marks.length + 1) cap)).set_ 34 (.int .i64 next)).set_ 36 (.int .i64 (wrap64 (s.cost + cost)))
  rw [cc_set37 H.out.reg, cc_set34 H.out.reg, cc_set36 (s := { s with pc := next }) H.out.reg] at hb6
  refine ⟨⟨_, rfl⟩, (HC4.out.more (D' := [c] ++ (Value.slice A s.marks.length cc).ownBlock.toList) (fun k hk => .inl (List.mem_append_right _ hk))).trans (hc5.more (D' := [c] ++ (Value.slice A s.marks.length cc).ownBlock.toList) (fun k hk => .inl (List.mem_append_left _ hk))) (fun k hk => .inl hk), .slice (some ⟨g, 0, none⟩) (s.marks.length + 1) cap, ?_, ⟨hb6, ?_, ?_, H.out.reg⟩⟩
  · rcases HG4.out with h | h
    · exact .inl h.symm
    · exact .inr ⟨g, rfl, by omega⟩
  · refine own_chgD (own_chgD H.out.rowC HC4.out (fun k hk hm => ?_)) hc5 (fun k hk hm => ?_)
    · exact n3 k hk (Option.mem_toList.1 hm)
    · simp only [List.mem_singleton] at hm
      subst hm
      exact n1 hk
  · show World.ownsRow _ 0 189 3 _ (s.marks ++ [(s.pc, addr, cost)]).length (markCells (s.marks ++ [(s.pc, addr, cost)]))
    rw [markCells_snoc, List.length_append]
    exact own_chgD HO4.out hc5 (fun k hk => by simp [Value.ownBlock] at hk; subst hk; simpa using hbg)
theorem CoreP.trans {s1 s2 : CS} {c : Nat} {bp cv mv : Value} {code : List (Ins5 × Bool)} {w w1 w2 : World} (h : CoreP s1 c bp cv mv code w w1) (h2 : ∀ mv1, CB w1 c bp cv mv1 code s1 → CoreP s2 c bp cv mv1 code w1 w2) : CoreP s2 c bp cv mv code w w2 := by
 obtain ⟨hc, mv1, hm, hb⟩ := h
 obtain ⟨hc2, mv2, hm2, hb2⟩ := h2 mv1 hb
 refine ⟨hc.trans hc2 (fun k hk => ?_), mv2, ?_, hb2⟩
 · simp only [List.mem_append, List.mem_singleton, Option.mem_toList] at hk ⊢
   rcases hk with hk | hk
   · exact .inl (.inl hk)
   · rcases hm with h | ⟨g, h, hg⟩
     · exact .inl (.inr (by rw [← h]; exact hk))
     · rw [h] at hk
       injection hk with hk
       exact .inr (by omega)
 · rcases hm2 with h | ⟨g, h, hg⟩
   · rcases hm with h' | ⟨g', h', hg'⟩
     · exact .inl (h.trans h')
     · exact .inr ⟨g', h.trans h', hg'⟩
   · exact .inr ⟨g, h, Nat.le_trans hc.size hg⟩
def onC (s : CS) (cost : Int) : CS := goesC s (wrap64 (s.pc + 1)) (-1) cost
set_option maxRecDepth 100000 in
theorem on_calls {w : World} {c : Nat} {bp cv mv : Value} {code : List (Ins5 × Bool)} {s : CS} (h : CB w c bp cv mv code s) (cost : Int) (hm : s.marks.length ≤ 2000000) :
 Calls Tryz.prog 79 #[.pointer (some ⟨c, 0, none⟩), .int .i64 cost] w fun e w' => (∃ v, e = .returned v) ∧ CoreP (onC s cost) c bp cv mv code w w' := by
 have hg := goes_c_calls h (wrap64 (s.pc + 1)) (-1) cost hm
 obtain ⟨e34, e35, e36, e37⟩ := @cc_at bp cv mv s h.reg
 have c34 := h.blk.cell' e34
 have HG := hide hg
 clear h e34 e35 e36 e37 hg
 go_enter Tryz.func79, Tryz.ntmps79
 go_wp2_with fail
 go_at_call 98
 refine HG.out.mono ?_
 rintro e w1 ⟨⟨v, rfl⟩, hp⟩
 go_wp2
 refine bodyPost_end (results_none rfl _ _ _) rfl ?_
 exact ⟨⟨_, rfl⟩, hp⟩
def branchC (s : CS) (n : Int) (holds : Bool) : CS := if holds then goesC s n (-1) 3 else onC s 1
set_option maxRecDepth 100000 in
theorem branch_calls {w : World} {c : Nat} {bp cv mv : Value} {code : List (Ins5 × Bool)} {s : CS} (h : CB w c bp cv mv code s) (i : Ins5) (holds : Bool) (hm : s.marks.length ≤ 2000000) :
 Calls Tryz.prog 103 #[.pointer (some ⟨c, 0, none⟩), insVal i, .bool holds] w fun e w' => (∃ v, e = .returned v) ∧ CoreP (branchC s i.n holds) c bp cv mv code w w' := by
 obtain ⟨op, d, a, b, n⟩ := i
 have hc0 : Chg w (w.alloc (.cells #[.int .i64 op, .int .i64 d, .int .i64 a, .int .i64 b, .int .i64 n] 25)) [] := (Chg.refl w []).alloc _
 have h1 := h.chg hc0 (by simp)
 have HC := hide hc0
 cases holds with
 | true =>
  have HG := hide (goes_c_calls h1 n (-1) 3 hm)
  clear h h1 hc0
  unfold insVal
  go_enter Tryz.func103, Tryz.ntmps103
  go_wp2_with fail
  go_at_call 98
  refine HG.out.mono ?_
  rintro e w1 ⟨⟨v, rfl⟩, hc, mv', hmv, hb⟩
  have HX := hide hc
  have HB := hide hb
  have HM := hide hmv
  clear hc hb hmv
  go_wp2
  refine bodyPost_end (results_none rfl _ _ _) rfl ?_
  refine ⟨⟨_, rfl⟩, (HC.out.more (by simp)).trans HX.out (fun k hk => .inl hk), mv', ?_, HB.out⟩
  rcases HM.out with h | ⟨g, h, hg⟩
  · exact .inl h
  · exact .inr ⟨g, h, by have := HC.out.size; omega⟩
 | false =>
  have HG := hide (on_calls h1 1 hm)
  clear h h1 hc0
  unfold insVal
  go_enter Tryz.func103, Tryz.ntmps103
  go_wp2_with fail
  go_at_call 79
  refine HG.out.mono ?_
  rintro e w1 ⟨⟨v, rfl⟩, hc, mv', hmv, hb⟩
  have HX := hide hc
  have HB := hide hb
  have HM := hide hmv
  clear hc hb hmv
  go_wp2
  refine bodyPost_ret (results_none rfl _ _ _) rfl ?_
  refine ⟨⟨_, rfl⟩, (HC.out.more (by simp)).trans HX.out (fun k hk => .inl hk), mv', ?_, HB.out⟩
  rcases HM.out with h | ⟨g, h, hg⟩
  · exact .inl h
  · exact .inr ⟨g, h, by have := HC.out.size; omega⟩
end Go.Proofs.YtjfnpokebaagmaaGreatDoor
