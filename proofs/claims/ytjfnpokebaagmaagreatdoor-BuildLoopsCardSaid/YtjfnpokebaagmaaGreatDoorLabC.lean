/- The program's table of names: the walks of its calls. -/
import Derived.Test.YtjfnpokebaagmaaGreatDoorLabB
import Derived.StringKeys
namespace Go.Proofs.YtjfnpokebaagmaaGreatDoor
open Go.RowKit Go.Deep Go.Maps
set_option linter.unusedVariables false
attribute [local go_sem] Oper.semAt_some
theorem keyed_str : Keyed Tryz.prog 9 := string_keyed Tryz.underlying9
theorem key_str (s : Nm) (hs : s.length ≤ 1000000) : keyOf Tryz.prog 9 (strV s) = some (.string s) := Go.WideMaps.keyOf_string_mk Tryz.underlying9 (s := ⟨s.toArray⟩) (by show s.length ≤ maxLen; unfold maxLen; omega)
theorem WalkSpells_neq (W : World) (m : Nat) : (binOp .neq 91 (.map (some m)) (.map none)).run Tryz.prog W = .ok (.bool true) W := run_neq_map_nil W _ _ _ _ Tryz.underlying91
section
variable {w : World} {t m n : Nat} {uv : Value} {defs uses : List (Nm × Int)}
set_option maxRecDepth 100000 in
theorem live_calls (h : PT w t m uv n defs uses) : Calls Tryz.prog 52 #[.pointer (some ⟨t, 0, none⟩)] w fun e w' => e = .returned (.bool true) ∧ w = w' := by
 have c0 := h.blk.cell' (i := 0) rfl
 have hn : ∀ W : World, (binOp .neq 91 (.map (some m)) (.map none)).run Tryz.prog W = .ok (.bool true) W := fun W => WalkSpells_neq W m
 clear h
 go_enter Tryz.func52, Tryz.ntmps52
 go_wp2
 go_ret
 exact ⟨rfl, rfl⟩
def mayE (s : Nm) : Int := if isL s = true then 0 else 8
set_option maxRecDepth 100000 in
theorem may_calls (h : PT w t m uv n defs uses) (s : Nm) (hs : s.length ≤ 1000000) : Calls Tryz.prog 58 #[.pointer (some ⟨t, 0, none⟩), strV s] w fun e w' => e = .returned (.int .i64 (mayE s)) ∧ Chg w w' [] := by
 have hl := live_calls h
 have hi := is_calls s w hs
 clear h
 unfold mayE
 cases hb : isL s with
 | true =>
  rw [hb] at hi
  clear hb
  unfold strV at *
  go_enter Tryz.func58, Tryz.ntmps58
  go_wp2_with (first | (go_at_call 52; refine hl.mono ?_; rintro e w1 ⟨rfl, rfl⟩) | (go_at_call 76; refine hi.mono ?_))
  rintro e w1 ⟨rfl, hc⟩
  go_wp2
  go_ret
  exact ⟨rfl, hc⟩
 | false =>
  rw [hb] at hi
  clear hb
  unfold strV at *
  go_enter Tryz.func58, Tryz.ntmps58
  go_wp2_with (first | (go_at_call 52; refine hl.mono ?_; rintro e w1 ⟨rfl, rfl⟩) | (go_at_call 76; refine hi.mono ?_))
  rintro e w1 ⟨rfl, hc⟩
  go_wp2
  go_ret
  exact ⟨rfl, hc⟩
set_option maxRecDepth 100000 in
theorem place_calls (h : PT w t m uv n defs uses) (s : Nm) (hs : s.length ≤ 1000000) :
 Calls Tryz.prog 66 #[.pointer (some ⟨t, 0, none⟩), strV s] w fun e w' => e = .returned (.tuple #[.int .i64 ((findL defs s).getD 0), .bool (findL defs s).isSome]) ∧ w = w' := by
 have hl := live_calls h
 have c0 := h.blk.cell' (i := 0) rfl
 have hk := key_str s hs
 have HM := hide h.map
 clear h
 unfold strV at *
 go_enter Tryz.func66, Tryz.ntmps66
 go_wp2_with (first | (go_at_call 52; refine hl.mono ?_; rintro e w1 ⟨rfl, rfl⟩) | (at_lookup; refine wpList_lookI rfl _ _ 91 rfl 9 keyed_str Tryz.underlying91 m n (defF defs) rfl HM.out _ (.string s) rfl hk trivial ?_))
 go_wp2
 go_ret2
 exact ⟨rfl, rfl⟩
def defE (defs : List (Nm × Int)) (s : Nm) : Int := if isL s = false then 8 else if (findL defs s).isSome then 9 else 0
def defD (defs : List (Nm × Int)) (s : Nm) (p : Int) : List (Nm × Int) := if defE defs s = 0 then defs ++ [(s, p)] else defs
set_option maxRecDepth 100000 in
theorem define_calls (h : PT w t m uv n defs uses) (s : Nm) (p : Int) (hs : s.length ≤ 1000000) (hn : n ≤ 1000000) (hp : (Lit.int .i64 p).wf = true) :
 Calls Tryz.prog 39 #[.pointer (some ⟨t, 0, none⟩), strV s, .int .i64 p] w fun e w' => e = .returned (.int .i64 (defE defs s)) ∧ Chg w w' [m] ∧ ∃ n', n' + defs.length ≤ n + (defD defs s p).length ∧ PT w' t m uv n' (defD defs s p) uses := by
 have hmay := may_calls h s hs
 cases hb : isL s with
 | false =>
  have e0 : defE defs s = 8 := by unfold defE; rw [hb]; rfl
  have e1 : defD defs s p = defs := by unfold defD; rw [e0]; rfl
  have H := hide h
  have em : mayE s = 8 := by unfold mayE; rw [hb]; rfl
  rw [em] at hmay
  rw [e0, e1]
  clear em
  clear hb e0 e1 h hp
  unfold strV at *
  go_enter Tryz.func39, Tryz.ntmps39
  go_wp2_with (go_at_call 58; refine hmay.mono ?_)
  rintro e w1 ⟨rfl, hc⟩
  go_wp2
  go_ret
  exact ⟨rfl, hc.more (by simp), n, Nat.le_refl _, H.out.chg hc (by simp)⟩
 | true =>
  have em : mayE s = 0 := by unfold mayE; rw [hb]; rfl
  rw [em] at hmay
  clear em
  have hk := key_str s hs
  have H := hide h
  cases hf : findL defs s with
  | some q =>
   have e0 : defE defs s = 9 := by unfold defE; rw [hb, hf]; rfl
   have e1 : defD defs s p = defs := by unfold defD; rw [e0]; rfl
   have hfd : defF defs (.string s) = some q := hf
   rw [e0, e1]
   clear hb e0 e1 h hp hf
   unfold strV at *
   go_enter Tryz.func39, Tryz.ntmps39
   go_wp2_with (go_at_call 58; refine hmay.mono ?_)
   rintro e w1 ⟨rfl, hc⟩
   have H1 := hide (H.out.chg hc (by simp))
   have HC := hide hc
   have c0 := H1.out.blk.cell' (i := 0) rfl
   clear hc
   go_wp2_with (at_lookup; refine wpList_lookI rfl _ _ 91 rfl 9 keyed_str Tryz.underlying91 m n (defF defs) rfl H1.out.map _ (.string s) rfl hk trivial ?_; rw [hfd])
   go_wp2
   go_ret
   exact ⟨rfl, HC.out.more (by simp), n, Nat.le_refl _, H1.out⟩
  | none =>
   have e0 : defE defs s = 0 := by unfold defE; rw [hb, hf]; rfl
   have e1 : defD defs s p = defs ++ [(s, p)] := by unfold defD; rw [e0]; rfl
   have hfd : defF defs (.string s) = none := hf
   have HP := hide (defF_put defs s p hf)
   rw [e0, e1]
   clear hb e0 e1 h hf
   unfold strV at *
   go_enter Tryz.func39, Tryz.ntmps39
   go_wp2_with (go_at_call 58; refine hmay.mono ?_)
   rintro e w1 ⟨rfl, hc⟩
   have H1 := hide (H.out.chg hc (by simp))
   have HC := hide hc
   have c0 := H1.out.blk.cell' (i := 0) rfl
   clear hc
   go_wp2_with (first | (at_lookup; refine wpList_lookI rfl _ _ 91 rfl 9 keyed_str Tryz.underlying91 m n (defF defs) rfl H1.out.map _ (.string s) rfl hk trivial ?_; rw [hfd]) | (at_mapUpdate; refine wpList_putI rfl _ _ _ 91 rfl 9 keyed_str Tryz.underlying91 m n (defF defs) rfl H1.out.map (by unfold maxLen; omega) _ (.string s) rfl hk trivial p rfl hp ?_))
   intro w2 hm2 hc2
   rw [HP.out] at hm2
   have HM2 := hide hm2
   have HC2 := hide hc2
   clear hm2 hc2
   go_wp2
   go_ret
   refine ⟨rfl, (HC.out.more (D' := [m]) (by simp)).trans HC2.out (by simp), n + 1, by rw [List.length_append]; simp; omega, ?_⟩
   obtain ⟨n1, n2, n3⟩ := H1.out.ne
   exact ⟨H1.out.blk.chg HC2.out (by simpa using n1), HM2.out, own_chgD H1.out.row HC2.out (fun g hg => by simp; rintro rfl; exact n3 hg)⟩
end
end Go.Proofs.YtjfnpokebaagmaaGreatDoor
