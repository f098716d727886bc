/- The program's table of names: what is to be put where. -/
import Derived.Test.YtjfnpokebaagmaaGreatDoorLabD
namespace Go.Proofs.YtjfnpokebaagmaaGreatDoor
open Go.RowKit Go.Deep Go.Maps
set_option linter.unusedVariables false
attribute [local go_sem] Oper.semAt_some
theorem info_fix : (Tryz.prog.info? 70).map (fun i => (i.zero, i.size, i.bytes)) = some (some (.agg #[.int .i64 0, .int .i64 0]), 2, 16) := by kernel_rfl
def fixCells (l : List (Int × Int)) : List Value := l.flatMap fun p => [.int .i64 p.1, .int .i64 p.2]
theorem fixCells_snoc (l : List (Int × Int)) (p : Int × Int) : fixCells (l ++ [p]) = fixCells l ++ [.int .i64 p.1, .int .i64 p.2] := by simp [fixCells]
theorem pair_at {α : Type} (f : α → Value) (h : α → Value) : ∀ (l : List α) (k : Nat) (x : α), l[k]? = some x → (l.flatMap fun p => [f p, h p])[k * 2]? = some (f x) ∧ (l.flatMap fun p => [f p, h p])[k * 2 + 1]? = some (h x)
 | [], k, x, e => by simp at e
 | y :: l, 0, x, e => by simp at e; subst e; exact ⟨rfl, rfl⟩
 | y :: l, k + 1, x, e => by
  have := pair_at f h l k x (by simpa using e)
  rw [List.flatMap_cons, show (k + 1) * 2 = k * 2 + 2 by omega]
  exact this
theorem row_open {w : World} {base e size n : Nat} {v : Value} {xs : List Value} (h : w.ownsRow base e size v n xs) : ∃ A c, v = .slice A n c ∧ (0 < n → ∃ g, A = some ⟨g, 0, none⟩ ∧ g < w.heap.size ∧ v.ownBlock = some g ∧ ∀ i u, xs[i]? = some u → w.cell? ⟨g, i, none⟩ = some u) := by
 rcases h.2 with ⟨rfl, h0⟩ | ⟨g, cap, cur, rfl, h1, h2, _⟩
 · exact ⟨none, 0, by rw [h0], fun hp => by omega⟩
 · refine ⟨_, cap, rfl, fun _ => ⟨g, rfl, lt_of_heap h2, rfl, fun i u hu => ?_⟩⟩
   have := h.cells (g := g) rfl i u hu
   rwa [add_plain, Nat.zero_add] at this
theorem fixM_none {defs : List (Nm × Int)} {s : Nm} {p : Int} {r : List (Nm × Int)} (h : findL defs s = none) : fixM defs ((s, p) :: r) = .error s := by rw [fixM, h]
theorem fixM_some {defs : List (Nm × Int)} {s : Nm} {p q : Int} {r : List (Nm × Int)} (h : findL defs s = some q) : fixM defs ((s, p) :: r) = match fixM defs r with | .error e => .error e | .ok l => .ok ((p, q) :: l) := by rw [fixM]; simp only [h]; cases fixM defs r <;> rfl
def withAcc (acc : List (Int × Int)) : Except Nm (List (Int × Int)) → Except Nm (List (Int × Int))
 | .error e => .error e
 | .ok l => .ok (acc ++ l)
theorem withAcc_step (acc : List (Int × Int)) (p q : Int) (x : Except Nm (List (Int × Int))) : withAcc acc (match x with | .error e => .error e | .ok l => .ok ((p, q) :: l)) = withAcc (acc ++ [(p, q)]) x := by
 cases x <;> simp [withAcc]
def FixP (r : Except Nm (List (Int × Int))) (w : World) (e : Ending) (w' : World) : Prop :=
 Chg w w' [] ∧ ((∃ s q, r = .error s ∧ e = .returned (.tuple #[.slice none 0 0, .iface 102 (.pointer (some ⟨q, 0, none⟩))]) ∧ Blk w' q 106 [strV s]) ∨
  (∃ fx v, r = .ok fx ∧ e = .returned (.tuple #[v, .nilIface]) ∧ w'.ownsRow w.heap.size 70 2 v fx.length (fixCells fx)))
set_option maxRecDepth 100000 in
theorem fixes_calls {w : World} {t m n : Nat} {uv : Value} {defs uses : List (Nm × Int)} (h : PT w t m uv n defs uses) (hs : ∀ p ∈ uses, p.1.length ≤ 1000000) (hn : uses.length ≤ 1000000) :
 Calls Tryz.prog 53 #[.pointer (some ⟨t, 0, none⟩)] w (FixP (fixM defs uses) w) := by
 obtain ⟨i0, hi, hz0, hz1, hz2⟩ := info_parts info_fix
 have H := hide h
 have HS := hide hs
 have c1 := h.blk.cell' (i := 1) rfl
 obtain ⟨A, c, rfl, hx⟩ := row_open h.row
 have HX := hide hx
 clear h hs hx
 go_enter Tryz.func53, Tryz.ntmps53
 go_wp2
 go_loopw [4, 14] (fun v i wr => ∃ (k : Nat) (acc : List (Int × Int)), k ≤ uses.length ∧ i = .int .i64 k ∧ acc.length ≤ k ∧ Hid (wr.ownsRow w.heap.size 70 2 v acc.length (fixCells acc)) ∧ Hid (Chg w wr []) ∧ Hid (fixM defs uses = withAcc acc (fixM defs (uses.drop k)))) (fun _ i _ => uses.length - (intOf i).toNat)
 case atStart => exact ⟨0, [], Nat.zero_le _, rfl, Nat.le_refl _, hide (World.ownsRow_nil _ _ _ _), hide (Chg.refl _ _), hide (by cases h : fixM defs uses <;> simp [withAcc, h])⟩
 case round =>
  obtain ⟨k, acc, hk, rfl, hacc, HO, HR, HI⟩ := hrel
  by_cases hlt : k < uses.length
  · obtain ⟨g, rfl, hgl, hgb, hcells⟩ := HX.out (by omega)
    obtain ⟨⟨s, p⟩, hsp⟩ : ∃ x, uses[k]? = some x := ⟨uses[k], by simp [hlt]⟩
    obtain ⟨q0, q1⟩ := pair_at (fun p : Nm × Int => strV p.1) (fun p => .int .i64 p.2) uses k (s, p) hsp
    have ca := HR.out.cell (hcells _ _ q0) (by simp)
    have cb := HR.out.cell (hcells _ _ q1) (by simp)
    have hsl := HS.out (s, p) (List.mem_of_getElem? hsp)
    have HDR : Hid (uses.drop k = (s, p) :: uses.drop (k + 1)) := hide (by
     rw [List.drop_eq_getElem_cons hlt]
     congr 1
     rw [List.getElem?_eq_getElem hlt] at hsp
     injection hsp)
    have hgr : g < wr.heap.size := by have := HR.out.size; omega
    have hpl := place_calls ((H.out.chg HR.out (by simp)).chg ((Chg.refl wr []).alloc (.cells #[strV s, .int .i64 p] 127)) (by simp)) s hsl
    clear hcells hsp q0 q1 hsl
    cases hf : findL defs s with
    | none =>
     rw [hf] at hpl
     have HE := hide (fixM_none (p := p) (r := uses.drop (k + 1)) hf)
     clear hf
     unfold strV at *
     go_wp2_with (go_at_call 66; refine hpl.mono ?_; rintro e w1 ⟨rfl, rfl⟩)
     go_region_with (fail)
     all_goals
      go_wp2
      go_ret2
      refine ⟨?_, .inl ⟨s, wr.heap.size + 1, by rw [HI.out, HDR.out, HE.out]; rfl, rfl, ?_⟩⟩
      · first
         | exact ((HR.out.alloc _).alloc _).drew
         | exact ((HR.out.alloc _).drew.alloc _)
      · first
         | (have hb := (Blk.new (wr.alloc (.cells #[strV s, .int .i64 p] 127)) 106 [strV s]).drew; rw [size_alloc] at hb; exact hb)
    | some q =>
     rw [hf] at hpl
     have HE := hide (fixM_some (p := p) (r := uses.drop (k + 1)) hf)
     clear hf
     unfold strV at *
     go_wp2_with (first | (go_at_call 66; refine hpl.mono ?_; rintro e w1 ⟨rfl, rfl⟩) | (at_builtin; refine wpList_append_own _ rfl _ _ 65 rfl w.heap.size 70 i0 (.agg #[.int .i64 0, .int .i64 0]) 2 16 Tryz.underlying65 hi hz0 hz1 hz2 rfl (by decide) _ acc.length _ rfl ((HO.out.alloc _).alloc _) ⟨wr.heap.size + 1, 0, none⟩ 1 1 [.int .i64 p, .int .i64 q] rfl rfl ?c1 ?c2 ?c3 ?c4 ?c5 ?_))
     case c1 =>
      intro j u hj
      match j, hj with
      | 0, hj => simp at hj; subst hj; simp [Addr.add]
      | 1, hj => simp at hj; subst hj; simp [Addr.add]
     case c2 => intro u hu; simp at hu; rcases hu with rfl | rfl <;> rfl
     case c3 => unfold maxLen; omega
     case c4 => omega
     case c5 => have := HR.out.size; simp; omega
     intro v' w4 hown' hgrow _
     have HG : Hid (Chg w w4 []) := hide ((((HR.out.alloc _).alloc _).trans (D' := u4.ownBlock.toList) (Chg.of_grown hgrow (fun k hk => .inl (by simp [hk]))) (fun k hk => .inr (HO.out.lt k (by simpa using hk)).1)))
     have HO4 := hide hown'
     obtain ⟨A6, c6, rfl⟩ := own_slice hown'
     clear hown' hgrow
     go_wp2
     go_roundw
     case rel =>
      refine ⟨k + 1, acc ++ [(p, q)], by omega, by go_num, by simp; omega, ?_, HG, hide ?_⟩
      · rw [List.length_append, fixCells_snoc]; exact HO4
      · rw [HI.out, HDR.out, HE.out, withAcc_step]
     case measure => simp [intOf]; omega
  · have hk2 : k = uses.length := by omega
    subst hk2
    go_wp2
    go_ret2
    have hi := HI.out
    rw [List.drop_length, fixM] at hi
    refine ⟨HR.out, .inr ⟨acc, _, ?_, rfl, HO.out⟩⟩
    rw [hi]
    simp [withAcc]
end Go.Proofs.YtjfnpokebaagmaaGreatDoor
