/- The core: a step of a core that runs. -/
import Derived.Test.YtjfnpokebaagmaaGreatDoorCoreG
namespace Go.Proofs.YtjfnpokebaagmaaGreatDoor
open Go Go.RowKit Go.Deep Go.Maps Go.Proofs.YtjfnpokebaagmaaGreatDoor.Xi
set_option linter.unusedVariables false
attribute [local go_sem] Oper.semAt_some
def vS6 (c g ln ca k : Nat) (op d a bb n : Int) (g0 : Nat) : Nat → Value
 | 0 => .pointer (some ⟨c, 0, none⟩)
 | 1 => .pointer (some ⟨c, 0, none⟩)
 | 2 => .pointer (some ⟨c, 1, none⟩)
 | 3 => .slice (some ⟨g, 0, none⟩) ln ca
 | 4 => .pointer (some ⟨c, 0, none⟩)
 | 5 => .pointer (some ⟨c, 0, none⟩)
 | 6 => .pointer (some ⟨c, 34, none⟩)
 | 7 => .int .i64 k
 | 8 => .pointer (some ⟨g, k * 6, none⟩)
 | 9 => .agg #[.int .i64 op, .int .i64 d, .int .i64 a, .int .i64 bb, .int .i64 n, .bool true]
 | 10 => .pointer (some ⟨g0, 0, none⟩)
 | 11 => undef
 | _ => undef
theorem vS6_g (c g ln ca k : Nat) (op d a bb n : Int) (g0 g1 : Nat) : ∀ i, i ≠ 10 → vS6 c g ln ca k op d a bb n g0 i = vS6 c g ln ca k op d a bb n g1 i
 | 0, _ => rfl
 | 1, _ => rfl
 | 2, _ => rfl
 | 3, _ => rfl
 | 4, _ => rfl
 | 5, _ => rfl
 | 6, _ => rfl
 | 7, _ => rfl
 | 8, _ => rfl
 | 9, _ => rfl
 | 10, h => absurd rfl h
 | 11, _ => rfl
 | _ + 12, _ => rfl
theorem putsS6 (v : Nat → Value) (t0 t1 t2 t3 t4 t5 t6 t7 t8 t9 t10 t11 t12 t13 t14 t15 t16 t17 t18 t19 t20 t21 t22 t23 t24 t25 t26 t27 t28 t29 t30 t31 t32 t33 t34 t35 t36 t37 t38 t39 t40 t41 t42 t43 t44 t45 t46 t47 t48 t49 t50 t51 t52 t53 : Value) : putsD v (some 34 :: some 35 :: some 36 :: some 37 :: some 38 :: some 39 :: some 40 :: some 41 :: some 42 :: some 43 :: some 3 :: none :: []) 0 (t0 :: t1 :: t2 :: t3 :: t4 :: t5 :: t6 :: t7 :: t8 :: t9 :: t10 :: t11 :: t12 :: t13 :: t14 :: t15 :: t16 :: t17 :: t18 :: t19 :: t20 :: t21 :: t22 :: t23 :: t24 :: t25 :: t26 :: t27 :: t28 :: t29 :: t30 :: t31 :: t32 :: t33 :: t34 :: t35 :: t36 :: t37 :: t38 :: t39 :: t40 :: t41 :: t42 :: t43 :: t44 :: t45 :: t46 :: t47 :: t48 :: t49 :: t50 :: t51 :: t52 :: t53 :: []) = (t0 :: t1 :: t2 :: v 10 :: t4 :: t5 :: t6 :: t7 :: t8 :: t9 :: t10 :: t11 :: t12 :: t13 :: t14 :: t15 :: t16 :: t17 :: t18 :: t19 :: t20 :: t21 :: t22 :: t23 :: t24 :: t25 :: t26 :: t27 :: t28 :: t29 :: t30 :: t31 :: t32 :: t33 :: v 0 :: v 1 :: v 2 :: v 3 :: v 4 :: v 5 :: v 6 :: v 7 :: v 8 :: v 9 :: t44 :: t45 :: t46 :: t47 :: t48 :: t49 :: t50 :: t51 :: t52 :: t53 :: []) := by kernel_rfl
def WS (w0 : World) (rc : List Value) (g : Nat) (L : Nat → Bool) (w : World) : Prop := Chg w0 w [] ∧ (L 10 = true → w0.heap.size ≤ g ∧ Blk w g 90 (bif L 11 then rc else [.int .i64 0, .int .i64 0, .int .i64 0, .int .i64 0, .int .i64 0, .bool false]))
def putRow (w : World) (g : Nat) (op d a bb n : Int) : World := (((((w.setCell ⟨g, 0, none⟩ (.int .i64 op)).setCell ⟨g, 1, none⟩ (.int .i64 d)).setCell ⟨g, 2, none⟩ (.int .i64 a)).setCell ⟨g, 3, none⟩ (.int .i64 bb)).setCell ⟨g, 4, none⟩ (.int .i64 n)).setCell ⟨g, 5, none⟩ (.bool true)
section
variable {w0 w : World} {rc : List Value} {g : Nat} {L L' : Nat → Bool}
theorem WS.ext (h : WS w0 rc g L w) (e : L 10 = L' 10) (e2 : L 11 = L' 11) : WS w0 rc g L' w := by unfold WS at h ⊢; rw [← e, ← e2]; exact h
theorem WS.keep {i : Nat} (h : WS w0 rc g L w) (h1 : 10 ≠ i) (h2 : 11 ≠ i) : WS w0 rc g (fun j => if j = i then true else L j) w := h.ext (by simp only [if_neg h1]) (by simp only [if_neg h2])
theorem WS.new (h : WS w0 rc g L w) (h11 : L 11 = false) : WS w0 rc w.heap.size (fun j => if j = 10 then true else L j) (w.alloc (.cells #[.int .i64 0, .int .i64 0, .int .i64 0, .int .i64 0, .int .i64 0, .bool false] 90)) := by
 refine ⟨h.1.alloc _, fun _ => ⟨h.1.size, ?_⟩⟩
 have hb := Blk.new w 90 [.int .i64 0, .int .i64 0, .int .i64 0, .int .i64 0, .int .i64 0, .bool false]
 simpa [h11] using hb
theorem WS.put {op d a bb n : Int} (h : WS w0 [.int .i64 op, .int .i64 d, .int .i64 a, .int .i64 bb, .int .i64 n, .bool true] g L w) (h10 : L 10 = true) (h11 : L 11 = false) : WS w0 [.int .i64 op, .int .i64 d, .int .i64 a, .int .i64 bb, .int .i64 n, .bool true] g (fun j => if j = 11 then true else L j) (putRow w g op d a bb n) := by
 obtain ⟨hz, hb⟩ := h.2 h10
 rw [h11] at hb
 have hb := hb
 simp only [cond_false] at hb
 have hc : Chg w (putRow w g op d a bb n) [g] := ((((((Chg.refl w _).setCell _ _ (.inl (by simp))).setCell _ _ (.inl (by simp))).setCell _ _ (.inl (by simp))).setCell _ _ (.inl (by simp))).setCell _ _ (.inl (by simp))).setCell _ _ (.inl (by simp))
 refine ⟨h.1.trans hc (fun k hk => .inr (by simp at hk; omega)), fun _ => ⟨hz, ?_⟩⟩
 unfold putRow
 simpa using (((((hb.set_ 0 (.int .i64 op)).set_ 1 (.int .i64 d)).set_ 2 (.int .i64 a)).set_ 3 (.int .i64 bb)).set_ 4 (.int .i64 n)).set_ 5 (.bool true)
theorem WS.at_ (h : WS w0 rc g L w) (h10 : L 10 = true) (h11 : L 11 = false) : Blk w g 90 [.int .i64 0, .int .i64 0, .int .i64 0, .int .i64 0, .int .i64 0, .bool false] := by
 obtain ⟨hz, hb⟩ := h.2 h10
 rw [h11] at hb
 exact hb
end
set_option maxRecDepth 100000 in
set_option maxHeartbeats 2000000 in
theorem step_runs {w : World} {c : Nat} {b : Addr} {cv mv : Value} {code : List (Ins5 × Bool)} {s s2 : CS} (h : CB w c (.pointer (some b)) cv mv code s) (k : Nat) (hk : s.pc = k) (i : Ins5) (hc : code[k]? = some (i, true)) (hst : s.st = 0) (hl2 : code.length ≤ 100000)
 (hdo : ∀ W', Chg w W' [] → Calls Tryz.prog 61 #[.pointer (some ⟨c, 0, none⟩), insVal i] W' fun e w' => (∃ v, e = .returned v) ∧ CoreP s2 c (.pointer (some b)) cv mv code W' w') :
 Calls Tryz.prog 43 #[.pointer (some ⟨c, 0, none⟩)] w fun e w' => e = .returned (.bool true) ∧ CoreP s2 c (.pointer (some b)) cv mv code w w' := by
 have hl := clive_calls h
 have HDO := hide hdo
 have hmix : Tryz.prog.follows .mixedOrders = true := by kernel_rfl
 replace hmix := hide hmix
 obtain ⟨c34, c35, _, _⟩ := @cc_at (.pointer (some b)) cv mv s h.reg
 replace c34 := h.blk.cell' c34
 replace c35 := h.blk.cell' c35
 rw [hk] at c34
 rw [hst] at c35
 have hkl : k < code.length := (List.getElem?_eq_some_iff.1 hc).1
 have c1 : w.cell? ⟨c, 1, none⟩ = some cv := h.blk.cell' rfl
 obtain ⟨A, ca, hcv, hx⟩ := row_open h.rowC
 subst hcv
 obtain ⟨g, rfl, hgl, hgb, hcells⟩ := hx (by omega)
 obtain ⟨op, d, a, bb, n⟩ := i
 obtain ⟨q0, q1, q2, q3, q4, q5⟩ := six_at code k _ hc
 have e0 := hcells _ _ q0
 have e1 := hcells _ _ q1
 have e2 := hcells _ _ q2
 have e3 := hcells _ _ q3
 have e4 := hcells _ _ q4
 have e5 := hcells _ _ q5
 have hkk : decide ((code.length : Int) ≤ (k : Int)) = false := by simp; omega
 clear h hdo hk hst hc hx hcells q0 q1 q2 q3 q4 q5
 unfold insVal at HDO
 go_enter Tryz.func43, Tryz.ntmps43
 go_wp2_with (go_at_call 44; refine hl.mono ?_; rintro e w1 ⟨rfl, rfl⟩)
 go_quiet (fail)
 have hc0 : Chg w (w.drewN nq) [] := (Chg.refl w []).drewN nq
 go_upto_region 6 with (fail)
 have z1 := hc0.cell c1 (by simp)
 have z34 := hc0.cell c34 (by simp)
 have za := hc0.cell e0 (by simp)
 have zb := hc0.cell e1 (by simp)
 have zc := hc0.cell e2 (by simp)
 have zd := hc0.cell e3 (by simp)
 have ze := hc0.cell e4 (by simp)
 have zf := hc0.cell e5 (by simp)
 have HC0 := hide hc0
 have HKL := hide hkl
 generalize w.drewN nq = w0 at *
 generalize hln : code.length = ln at *
 clear e0 e1 e2 e3 e4 e5 c1 c34 c35 hc0
 refine wp_regionJ hmix.out _ _ (fun g0 => vS6 c g ln ca k op d a bb n g0) (fun (g0 : Nat) L w' => WS w0 [.int .i64 op, .int .i64 d, .int .i64 a, .int .i64 bb, .int .i64 n, .bool true] g0 L w') 0 (by kernel_rfl) [] (by kernel_rfl) (fun p hp γ => by simp at hp) (by kernel_rfl) ?step ?start ?fin ?ext
 case start => exact ⟨(Chg.refl w0 []).drew, fun h => by cases h⟩
 case ext => exact fun γ L L' w' h hw => hw.ext (h 10 (by decide)) (h 11 (by decide))
 case step =>
  intro i o ho L av w1 γ hdn htm hW hL hpre K Q hK
  match i, ho with
  | 0, ho =>
   injection ho with ho; subst ho
   have b0 : av.tmps.getD 0 undef = .pointer (some ⟨c, 0, none⟩) := slB htm 0 (by kernel_rfl)
   clear htm
   refine val_now ?_ (hK γ w1 (fun _ _ => rfl) (hW.keep (by decide) (by decide))); go_simp; rfl
  | 1, ho =>
   injection ho with ho; subst ho
   have s0 := slA htm 34 0 (by kernel_rfl) (hpre ⟨0, .data⟩ (by simp) rfl)
   simp only [vS6] at s0
   clear htm
   refine val_now ?_ (hK γ w1 (fun _ _ => rfl) (hW.keep (by decide) (by decide))); go_simp; rfl
  | 2, ho =>
   injection ho with ho; subst ho
   have s1 := slA htm 35 1 (by kernel_rfl) (hpre ⟨1, .data⟩ (by simp) rfl)
   simp only [vS6] at s1
   clear htm
   refine val_now ?_ (hK γ w1 (fun _ _ => rfl) (hW.keep (by decide) (by decide))); go_simp; rfl
  | 3, ho =>
   injection ho with ho; subst ho
   have s2 := slA htm 36 2 (by kernel_rfl) (hpre ⟨2, .data⟩ (by simp) rfl)
   simp only [vS6] at s2
   clear htm
   have y := hW.1.cell z1 (by simp)
   refine val_now ?_ (hK γ w1 (fun _ _ => rfl) (hW.keep (by decide) (by decide))); go_simp; rfl
  | 4, ho =>
   injection ho with ho; subst ho
   have b0 : av.tmps.getD 0 undef = .pointer (some ⟨c, 0, none⟩) := slB htm 0 (by kernel_rfl)
   clear htm
   refine val_now ?_ (hK γ w1 (fun _ _ => rfl) (hW.keep (by decide) (by decide))); go_simp; rfl
  | 5, ho =>
   injection ho with ho; subst ho
   have s4 := slA htm 38 4 (by kernel_rfl) (hpre ⟨4, .data⟩ (by simp) rfl)
   simp only [vS6] at s4
   clear htm
   refine val_now ?_ (hK γ w1 (fun _ _ => rfl) (hW.keep (by decide) (by decide))); go_simp; rfl
  | 6, ho =>
   injection ho with ho; subst ho
   have s5 := slA htm 39 5 (by kernel_rfl) (hpre ⟨5, .data⟩ (by simp) rfl)
   simp only [vS6] at s5
   clear htm
   refine val_now ?_ (hK γ w1 (fun _ _ => rfl) (hW.keep (by decide) (by decide))); go_simp; rfl
  | 7, ho =>
   injection ho with ho; subst ho
   have s6 := slA htm 40 6 (by kernel_rfl) (hpre ⟨6, .data⟩ (by simp) rfl)
   simp only [vS6] at s6
   clear htm
   have y := hW.1.cell z34 (by simp)
   refine val_now ?_ (hK γ w1 (fun _ _ => rfl) (hW.keep (by decide) (by decide))); go_simp; rfl
  | 8, ho =>
   injection ho with ho; subst ho
   have s3 := slA htm 37 3 (by kernel_rfl) (hpre ⟨3, .data⟩ (by simp) rfl)
   have s7 := slA htm 41 7 (by kernel_rfl) (hpre ⟨7, .data⟩ (by simp) rfl)
   simp only [vS6] at s3 s7
   clear htm
   have hkn : k < ln := HKL.out
   refine val_now ?_ (hK γ w1 (fun _ _ => rfl) (hW.keep (by decide) (by decide))); go_simp; rfl
  | 9, ho =>
   injection ho with ho; subst ho
   have s8 := slA htm 42 8 (by kernel_rfl) (hpre ⟨8, .data⟩ (by simp) rfl)
   simp only [vS6] at s8
   clear htm
   have y0 := hW.1.cell za (by simp)
   have y1 := hW.1.cell zb (by simp)
   have y2 := hW.1.cell zc (by simp)
   have y3 := hW.1.cell zd (by simp)
   have y4 := hW.1.cell ze (by simp)
   have y5 := hW.1.cell zf (by simp)
   refine val_now ?_ (hK γ w1 (fun _ _ => rfl) (hW.keep (by decide) (by decide))); go_simp; rfl
  | 10, ho =>
   injection ho with ho; subst ho
   clear htm
   have l11 : L 11 = false := by
    cases h : L 11 with
    | false => rfl
    | true =>
     have h10 : L 10 = true := hdn 11 _ rfl h ⟨10, .data⟩ (by simp) rfl
     rw [hL] at h10; cases h10
   refine val_now ?_ (hK w1.heap.size _ (fun jj hjj => vS6_g _ _ _ _ _ _ _ _ _ _ _ _ jj (fun e => by rw [e, hL] at hjj; cases hjj)) (WS.new hW l11))
   go_simp
   try rfl
  | 11, ho =>
   injection ho with ho; subst ho
   have l10 := hpre ⟨10, .data⟩ (by simp) rfl
   have s10 := slA htm 3 10 (by kernel_rfl) l10
   have s9 := slA htm 43 9 (by kernel_rfl) (hpre ⟨9, .data⟩ (by simp) rfl)
   simp only [vS6] at s10 s9
   clear htm
   have l10 := hpre ⟨10, .data⟩ (by simp) rfl
   have hbz := WS.at_ hW l10 hL
   have y0 := hbz.cell' (i := 0) rfl
   have y1 := hbz.cell' (i := 1) rfl
   have y2 := hbz.cell' (i := 2) rfl
   have y3 := hbz.cell' (i := 3) rfl
   have y4 := hbz.cell' (i := 4) rfl
   have y5 := hbz.cell' (i := 5) rfl
   have f0 := hbz.frozen 0
   have f1 := hbz.frozen 1
   have f2 := hbz.frozen 2
   have f3 := hbz.frozen 3
   have f4 := hbz.frozen 4
   have f5 := hbz.frozen 5
   have yl := hbz.lt
   refine skip_now ?_ (hK γ _ (fun _ _ => rfl) (WS.put hW l10 hL))
   unfold putRow
   go_simp
  | _ + 12, ho => cases ho
 case fin =>
 intro γ w1 hW
 rw [finG_puts, putsR_list, putsL_dst]
 simp only [List.map_cons, List.map_nil]
 rw [putsS6]
 simp only [vS6]
 obtain ⟨hz, hb⟩ := hW.2 rfl
 have hb : Blk w1 γ 90 [.int .i64 op, .int .i64 d, .int .i64 a, .int .i64 bb, .int .i64 n, .bool true] := hb
 have hc1 : Chg w w1 [] := HC0.out.trans hW.1 (by simp)
 have r0 : w1.cell? ⟨γ, 0, none⟩ = some (.int .i64 op) := hb.cell' (i := 0) rfl
 have r1 : w1.cell? ⟨γ, 1, none⟩ = some (.int .i64 d) := hb.cell' (i := 1) rfl
 have r2 : w1.cell? ⟨γ, 2, none⟩ = some (.int .i64 a) := hb.cell' (i := 2) rfl
 have r3 : w1.cell? ⟨γ, 3, none⟩ = some (.int .i64 bb) := hb.cell' (i := 3) rfl
 have r4 : w1.cell? ⟨γ, 4, none⟩ = some (.int .i64 n) := hb.cell' (i := 4) rfl
 have r5 : w1.cell? ⟨γ, 5, none⟩ = some (.bool true) := hb.cell' (i := 5) rfl
 have HD := hide (HDO.out w1 hc1)
 have HC1 := hide hc1
 clear hW hz hb hc1 z1 z34 za zb zc zd ze zf HDO
 go_wp2_with fail
 go_at_call 61
 refine HD.out.mono ?_
 rintro e w2 ⟨⟨v, rfl⟩, hp⟩
 have HP := hide hp
 clear hp HD r0 r1 r2 r3 r4 r5
 go_wp2
 go_ret
 subst hln
 exact ⟨rfl, CoreP.alloc HC1.out HP.out⟩
end Go.Proofs.YtjfnpokebaagmaaGreatDoor
