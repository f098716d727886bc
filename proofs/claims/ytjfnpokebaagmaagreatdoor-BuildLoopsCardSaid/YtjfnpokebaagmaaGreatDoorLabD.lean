/- The program's table of names: uses. -/
import Derived.Test.YtjfnpokebaagmaaGreatDoorLabC
namespace Go.Proofs.YtjfnpokebaagmaaGreatDoor
open Go.RowKit Go.Deep Go.Maps
set_option linter.unusedVariables false
attribute [local go_sem] Oper.semAt_some
theorem info_use : (Tryz.prog.info? 127).map (fun i => (i.zero, i.size, i.bytes)) = some (some (.agg #[.string ⟨#[]⟩, .int .i64 0]), 2, 24) := by kernel_rfl
def useD (uses : List (Nm × Int)) (s : Nm) (p : Int) : List (Nm × Int) := if isL s = true then uses ++ [(s, p)] else uses
def RowNew (w : World) (v v' : Value) : Prop := v'.ownBlock = v.ownBlock ∨ ∃ g, v'.ownBlock = some g ∧ w.heap.size ≤ g
theorem RowNew.refl (w : World) (v : Value) : RowNew w v v := .inl rfl
theorem two_new {w : World} {a b : Value} {t : TypeId} : ∀ j u, [a, b][j]? = some u → (w.alloc (.cells #[a, b] t)).cell? ((⟨w.heap.size, 0, none⟩ : Addr).add j) = some u := by
 intro j u hj
 match j, hj with
 | 0, hj => simp at hj; subst hj; simp [Addr.add]
 | 1, hj => simp at hj; subst hj; simp [Addr.add]
set_option maxRecDepth 100000 in
theorem use_calls {w : World} {t m n : Nat} {uv : Value} {defs uses : List (Nm × Int)} (h : PT w t m uv n defs uses) (s : Nm) (p : Int) (hs : s.length ≤ 1000000) (hn : uses.length ≤ 1000000) :
 Calls Tryz.prog 46 #[.pointer (some ⟨t, 0, none⟩), strV s, .int .i64 p] w fun e w' => e = .returned (.int .i64 (mayE s)) ∧ Chg w w' ([t] ++ uv.ownBlock.toList) ∧ ∃ uv', RowNew w uv uv' ∧ PT w' t m uv' n defs (useD uses s p) := by
 obtain ⟨i0, hi, hz0, hz1, hz2⟩ := info_parts info_use
 have hmay := may_calls h s hs
 have H := hide h
 cases hb : isL s with
 | false =>
  have em : mayE s = 8 := by unfold mayE; rw [hb]; rfl
  have e1 : useD uses s p = uses := by unfold useD; rw [hb]; rfl
  rw [em] at hmay
  rw [em, e1]
  clear hb em e1 h
  unfold strV at *
  go_enter Tryz.func46, Tryz.ntmps46
  go_wp2_with (go_at_call 58; refine hmay.mono ?_)
  rintro e w1 ⟨rfl, hc⟩
  go_wp2
  go_ret
  exact ⟨rfl, hc.more (by simp), uv, RowNew.refl _ _, H.out.chg hc (by simp)⟩
 | true =>
  have em : mayE s = 0 := by unfold mayE; rw [hb]; rfl
  have e1 : useD uses s p = uses ++ [(s, p)] := by unfold useD; rw [hb]; rfl
  rw [em] at hmay
  rw [em, e1]
  clear hb em e1 h
  unfold strV at *
  go_enter Tryz.func46, Tryz.ntmps46
  go_wp2_with (go_at_call 58; refine hmay.mono ?_)
  rintro e w1 ⟨rfl, hc⟩
  have H1 := hide (H.out.chg hc (by simp))
  have HC := hide hc
  have c1 := H1.out.blk.cell' (i := 1) rfl
  have f1 := H1.out.blk.frozen 1
  obtain ⟨A, c, rfl⟩ := own_slice H1.out.row
  clear hc
  go_wp2_with (at_builtin; refine wpList_append_lies _ rfl _ _ 92 rfl 0 127 i0 (.agg #[.string ⟨#[]⟩, .int .i64 0]) 2 24 Tryz.underlying92 hi hz0 hz1 hz2 rfl (by decide) _ uses.length _ rfl (H1.out.row.alloc _) ⟨w1.heap.size, 0, none⟩ 1 1 [.string ⟨s.toArray⟩, .int .i64 p] rfl rfl two_new (by intro u hu; simp at hu; rcases hu with rfl | rfl <;> rfl) (by decide) (by unfold maxLen; omega) (by omega) (Nat.zero_le _) _ rfl ?_)
  intro g cap w2 hown hgr hg2 hg3
  obtain ⟨n1, n2, n3⟩ := H1.out.ne
  have hc2 : Chg w1 w2 (Value.slice A uses.length c).ownBlock.toList := ((Chg.refl w1 _).alloc _).trans (Chg.of_grown hgr (fun k hk => .inl (by simp [hk]))) (fun k hk => .inl hk)
  have hb2 := H1.out.blk.chg hc2 (by simpa using fun e => n2 e)
  have hm2 := H1.out.map.chg hc2 (by simpa using fun e => n3 e)
  have d1 := hb2.cell' (i := 1) rfl
  have k1 := hb2.frozen 1
  have HB2 := hide hb2
  have HM2 := hide hm2
  have HC2 := hide hc2
  have HO2 := hide hown
  have HG := hide hg2
  have htg : t ≠ g := fun e => by
   subst e
   rcases hg2 with h | h
   · exact n2 h
   · have := H1.out.blk.lt
     omega
  have HN := hide n1
  clear hown hgr hb2 hm2 hc2 hg2 n1 n2 n3
  go_wp2
  go_ret
  have hc3 : Chg w2 (w2.setCell ⟨t, 1, none⟩ (.slice (some ⟨g, 0, none⟩) (uses.length + 1) cap)) [t] := (Chg.refl w2 _).setCell _ _ (by simp)
  refine ⟨rfl, ?_, _, ?_, ⟨HB2.out.set_ 1 _, HM2.out.chg hc3 (by simpa using fun e => HN.out e.symm), ?_⟩⟩
  · refine (HC.out.more (D' := [t] ++ (Value.slice A uses.length c).ownBlock.toList) (by simp)).trans ((HC2.out.more (D' := [t] ++ (Value.slice A uses.length c).ownBlock.toList) (fun k hk => .inl (List.mem_append_right _ hk))).trans (hc3.more (D' := [t] ++ (Value.slice A uses.length c).ownBlock.toList) (fun k hk => .inl (List.mem_append_left _ hk))) (fun k hk => .inl hk)) (fun k hk => .inl hk)
  · rcases HG.out with h | h
    · exact .inl h.symm
    · exact .inr ⟨g, rfl, by have := HC.out.size; omega⟩
  · rw [useCells_snoc, List.length_append]
    exact own_chgD HO2.out hc3 (fun k hk => by simp [Value.ownBlock] at hk; subst hk; simpa using fun e => htg e.symm)
end Go.Proofs.YtjfnpokebaagmaaGreatDoor
