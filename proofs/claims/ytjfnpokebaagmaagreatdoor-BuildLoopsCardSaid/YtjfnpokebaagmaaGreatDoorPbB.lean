/- The program's builder: an instruction more. -/
import Derived.Test.YtjfnpokebaagmaaGreatDoorPbA
import Derived.Deep.RegionLaw
namespace Go.Proofs.YtjfnpokebaagmaaGreatDoor
open Go.RowKit Go.Deep Go.Maps
set_option linter.unusedVariables false
attribute [local go_sem] Oper.semAt_some
theorem info_ins : (Tryz.prog.info? 25).map (fun i => (i.zero, i.size, i.bytes)) = some (some (.agg #[.int .i64 0, .int .i64 0, .int .i64 0, .int .i64 0, .int .i64 0]), 5, 40) := by kernel_rfl
theorem five_new {w : World} {a b c d f : Value} {t : TypeId} : ∀ j u, [a, b, c, d, f][j]? = some u → ((w.alloc (.cells #[a, b, c, d, f] t)).drew).cell? ((⟨w.heap.size, 0, none⟩ : Addr).add j) = some u := by
 intro j u hj
 match j, hj with
 | 0, hj => simp at hj; subst hj; simp [Addr.add]
 | 1, hj => simp at hj; subst hj; simp [Addr.add]
 | 2, hj => simp at hj; subst hj; simp [Addr.add]
 | 3, hj => simp at hj; subst hj; simp [Addr.add]
 | 4, hj => simp at hj; subst hj; simp [Addr.add]
theorem five_one {a b c d f : Int} : ∀ u ∈ [Value.int .i64 a, .int .i64 b, .int .i64 c, .int .i64 d, .int .i64 f], u.oneCell' = true := by
 intro u hu
 simp at hu
 rcases hu with rfl | rfl | rfl | rfl | rfl <;> rfl
theorem row_heap {w : World} {base e size n : Nat} {v : Value} {xs : List Value} (h : w.ownsRow base e size v n xs) {g : Nat} (hg : v.ownBlock = some g) : ∃ cur, w.heap[g]? = some (.cells cur e (0, 0)) := by
 rcases h.2 with ⟨rfl, _⟩ | ⟨g', cap, cur, rfl, _, h2, _⟩
 · simp [Value.ownBlock] at hg
 · simp [Value.ownBlock] at hg
   subst hg
   exact ⟨cur, h2⟩
theorem obj_ne {w : World} {a b : Nat} {c c' : Array Value} {t t' : TypeId} (h : w.heap[a]? = some (.cells c t (0, 0))) (h' : w.heap[b]? = some (.cells c' t' (0, 0))) (hne : t ≠ t') : a ≠ b := by
 rintro rfl
 rw [h] at h'
 injection h' with h'
 injection h' with _ h'
 exact hne h'
theorem map_ne {w : World} {a b : Nat} {c : Array Value} {t : TypeId} {es : Array MapEntry} {k : Nat} (h : w.heap[a]? = some (.cells c t (0, 0))) (h' : w.heap[b]? = some (.map es k)) : a ≠ b := by
 rintro rfl
 rw [h] at h'
 injection h' with h'
 cases h'
theorem PBS.ne {w : World} {b t m n : Nat} {cv uv : Value} {bm : BM} (h : PBS w b t m cv uv n bm) : b ≠ t ∧ b ≠ m ∧ cv.ownBlock ≠ some b ∧ cv.ownBlock ≠ some t ∧ cv.ownBlock ≠ some m ∧ (∀ g, uv.ownBlock = some g → g ≠ b ∧ cv.ownBlock ≠ some g) := by
 obtain ⟨es, k, hm⟩ := h.tab.map.obj
 refine ⟨obj_ne h.blk h.tab.blk (by decide), map_ne h.blk hm, fun e => ?_, fun e => ?_, fun e => ?_, fun g hg => ⟨?_, fun e => ?_⟩⟩
 · obtain ⟨cur, hc⟩ := row_heap h.row e
   exact obj_ne hc h.blk (by decide) rfl
 · obtain ⟨cur, hc⟩ := row_heap h.row e
   exact obj_ne hc h.tab.blk (by decide) rfl
 · obtain ⟨cur, hc⟩ := row_heap h.row e
   exact map_ne hc hm rfl
 · obtain ⟨cur, hc⟩ := row_heap h.tab.row hg
   exact obj_ne hc h.blk (by decide)
 · obtain ⟨cur, hc⟩ := row_heap h.tab.row hg
   obtain ⟨cur', hc'⟩ := row_heap h.row e
   exact obj_ne hc hc' (by decide) rfl
set_option maxRecDepth 100000 in
set_option maxHeartbeats 1000000 in
theorem ins_calls {w : World} {b : Nat} {bm : BM} {F : List Nat} (h : PB w b bm F) (i : Ins5) (hl : bm.code.length ≤ 1000000) :
 Calls Tryz.prog 16 #[.pointer (some ⟨b, 0, none⟩), insVal i] w fun e w' => e = .returned (.int .i64 (insM bm i).1) ∧ Chg w w' F ∧ ∃ F', Sub F' F w ∧ PB w' b (insM bm i).2 F' := by
 obtain ⟨t, m, cv, uv, n, hp, rfl, hn⟩ := h
 obtain ⟨op, d, a, b1, n1⟩ := i
 obtain ⟨i0, hi, hz0, hz1, hz2⟩ := info_parts info_ins
 have HP := hide hp
 have hlv := blive_calls (hp.chg ((Chg.refl w []).alloc (.cells #[.int .i64 op, .int .i64 d, .int .i64 a, .int .i64 b1, .int .i64 n1] 25)) (by simp))
 have hck := check_any op d a b1 n1 (w.alloc (.cells #[.int .i64 op, .int .i64 d, .int .i64 a, .int .i64 b1, .int .i64 n1] 25))
 have hnx := hide hn
 clear hp hn
 unfold insVal
 by_cases h0 : chk op d a b1 n1 = 0
 · have e1 : insM bm ⟨op, d, a, b1, n1⟩ = (0, { bm with code := bm.code ++ [⟨op, d, a, b1, n1⟩] }) := by unfold insM chkI; simp [h0]
   rw [e1]
   rw [h0] at hck
   clear h0 e1
   unfold insV at hck
   go_enter Tryz.func16, Tryz.ntmps16
   go_wp2_with (first | (go_at_call 33; refine hlv.mono ?_; rintro e w1 ⟨rfl, rfl⟩) | (go_at_call 40; refine hck.mono ?_))
   rintro e w1 ⟨rfl, hc⟩
   have hc0 : Chg w w1 [] := ((Chg.refl w []).alloc _).trans hc (by simp)
   have HP1 := hide (HP.out.chg hc0 (by simp))
   have HC := hide hc0
   have hbx := (Blk.new w 25 [.int .i64 op, .int .i64 d, .int .i64 a, .int .i64 b1, .int .i64 n1]).chg hc (by simp)
   have x0 := hbx.cell' (i := 0) rfl
   have x1 := hbx.cell' (i := 1) rfl
   have x2 := hbx.cell' (i := 2) rfl
   have x3 := hbx.cell' (i := 3) rfl
   have x4 := hbx.cell' (i := 4) rfl
   have c1 := HP1.out.blk.cell' (i := 1) rfl
   have f1 := HP1.out.blk.frozen 1
   have hbl := HP1.out.blk.lt
   have hwl := hbx.lt
   obtain ⟨A, c, rfl⟩ := own_slice HP1.out.row
   clear hc hc0 hbx
   go_wp2
   go_region_law (refine step_append_lies _ rfl (.tmp 17) (.tmp 19) 32 rfl 0 25 i0 (.agg #[.int .i64 0, .int .i64 0, .int .i64 0, .int .i64 0, .int .i64 0]) 5 40 Tryz.underlying32 hi hz0 hz1 hz2 rfl (by decide) (.slice A bm.code.length c) bm.code.length _ (by simp [Act.eval]) ((HP1.out.row.alloc _).drew) ⟨w1.heap.size, 0, none⟩ 1 1 [.int .i64 op, .int .i64 d, .int .i64 a, .int .i64 b1, .int .i64 n1] (by simp [Act.eval]) rfl five_new five_one (by decide) (by unfold maxLen; omega) (by omega) (Nat.zero_le _) _ rfl ?_; rintro g cap w4 hown hgr hg2 hg3; have hc4 : Chg w1 w4 (Value.slice A bm.code.length c).ownBlock.toList := ((((Chg.refl w1 _).alloc _).drew).trans (Chg.of_grown hgr (fun k hk => .inl (by simp [hk]))) (fun k hk => .inl hk)); have hb4 := HP1.out.blk.chg hc4 (by simpa using fun e => HP1.out.ne.2.2.1 e); have y1 := hb4.cell' (i := 1) rfl; have yf := hb4.frozen 1; have HB4 := hide hb4; have HC4 := hide hc4; have HO4 := hide hown; have hg2 := hg2.imp id (fun h => h.trans (size_alloc w1 (.cells #[.int .i64 op, .int .i64 d, .int .i64 a, .int .i64 b1, .int .i64 n1] 25))); have HG4 := hide hg2; clear hown hgr hc4 hb4 hg2; skip)
   all_goals
    go_wp2
    go_ret
    obtain ⟨q1, q2, q3, q4, q5, q6⟩ := HP1.out.ne
    have hgl : g < w4.heap.size := hg3
    have hbg : g ≠ b := fun e => by
     rcases HG4.out with h | h
     · exact q3 (by rw [h, e])
     · omega
    have hc5 : Chg w4 (w4.setCell ⟨b, 1, none⟩ (.slice (some ⟨g, 0, none⟩) (bm.code.length + 1) cap)) [b] := (Chg.refl w4 _).setCell _ _ (by simp)
    have hT := (HP1.out.tab.chg HC4.out (fun k hk hm => by
     have hm' := Option.mem_toList.1 hm
     simp only [footT, List.mem_append, List.mem_cons, List.not_mem_nil, or_false, Option.mem_toList] at hk
     rcases hk with (rfl | rfl) | hk
     · exact q4 hm'
     · exact q5 hm'
     · exact (q6 k hk).2 hm')).chg hc5 (fun k hk hm => by
     simp only [List.mem_singleton] at hm
     subst hm
     simp only [footT, List.mem_append, List.mem_cons, List.not_mem_nil, or_false, Option.mem_toList] at hk
     rcases hk with (rfl | rfl) | hk
     · exact q1 rfl
     · exact q2 rfl
     · exact (q6 _ hk).1 rfl)
    have hFF : Chg w (w4.setCell ⟨b, 1, none⟩ (.slice (some ⟨g, 0, none⟩) (bm.code.length + 1) cap)) (footP b t m (.slice A bm.code.length c) uv) :=
     (HC.out.more (D' := footP b t m (.slice A bm.code.length c) uv) (by simp)).trans ((HC4.out.more (D' := footP b t m (.slice A bm.code.length c) uv) (fun k hk => .inl (by simp only [footP, List.mem_append]; exact .inl (.inr hk)))).trans (hc5.more (D' := footP b t m (.slice A bm.code.length c) uv) (fun k hk => .inl (by simp only [footP, List.mem_append]; exact .inl (.inl hk)))) (fun k hk => .inl hk)) (fun k hk => .inl hk)
    refine ⟨rfl, hFF, footP b t m (.slice (some ⟨g, 0, none⟩) (bm.code.length + 1) cap) uv, ?_, t, m, _, uv, n, ⟨HB4.out.set_ 1 _, hT, ?_⟩, rfl, hnx.out⟩
    · intro k hk
      simp only [footP, List.mem_append, List.mem_singleton, Option.mem_toList, Value.ownBlock] at hk ⊢
      rcases hk with (hk | hk) | hk
      · exact .inl (.inl (.inl hk))
      · have hk : g = k := by simpa using hk
        subst hk
        rcases HG4.out with h | h
        · exact .inl (.inl (.inr h))
        · exact .inr (by have := HC.out.size; omega)
      · exact .inl (.inr hk)
    · rw [codeCells_snoc, List.length_append]
      exact own_chgD HO4.out hc5 (fun k hk => by simp [Value.ownBlock] at hk; subst hk; simpa using hbg)
 · have e1 : insM bm ⟨op, d, a, b1, n1⟩ = (chk op d a b1 n1, bm) := by unfold insM chkI; simp [h0]
   rw [e1]
   generalize chk op d a b1 n1 = e0 at *
   have hx0 : (e0 == 0) = false := beq_eq_false_iff_ne.2 h0
   clear h0 e1
   unfold insV at hck
   go_enter Tryz.func16, Tryz.ntmps16
   go_wp2_with (first | (go_at_call 33; refine hlv.mono ?_; rintro e w1 ⟨rfl, rfl⟩) | (go_at_call 40; refine hck.mono ?_))
   rintro e w1 ⟨rfl, hc⟩
   have hc0 : Chg w w1 [] := ((Chg.refl w []).alloc _).trans hc (by simp)
   have HC := hide hc0
   clear hc hc0
   go_wp2
   go_ret
   exact ⟨rfl, HC.out.more (by simp), _, Sub.refl _ _, t, m, cv, uv, n, HP.out.chg HC.out (by simp), rfl, hnx.out⟩
end Go.Proofs.YtjfnpokebaagmaaGreatDoor
