/- Texts of this claim, side by side: CoreM, CoreK. -/
import Derived.Test.YthnhilghjadigaaGreatDoorKC6
import Derived.Test.YthnhilghjadigaaGreatDoorKC2
/- The core with its memory: lw, sw. -/
namespace Go.Proofs.YthnhilghjadigaaGreatDoor
open Go.RowKit Go.Deep Go.Maps
set_option linter.unusedVariables false
attribute [local go_sem] Oper.semAt_some
structure CM (w : World) (c b r : Nat) (cv mv : Value) (code : List (Ins5 × Bool)) (s : CS) (ws : List Int) : Prop where
 core : CB w c (.pointer (some ⟨b, 0, none⟩)) cv mv code s
 ram : IsRam w b r ws
 env : CEnv w c cv mv
 gb : 1 ≠ b
 gr : 1 ≠ r
theorem CB.typed {w : World} {c : Nat} {bp cv mv : Value} {code : List (Ins5 × Bool)} {s : CS} (h : CB w c bp cv mv code s) : ∀ k ∈ footC c cv mv, ∃ cs t, w.heap[k]? = some (.cells cs t (0, 0)) ∧ (t = 108 ∨ t = 112 ∨ t = 74) := by
 intro k hk
 simp only [footC, List.mem_append, List.mem_singleton, Option.mem_toList] at hk
 rcases hk with rfl | hk | hk
 · exact ⟨_, _, h.blk, .inl rfl⟩
 · obtain ⟨cur, hc⟩ := row_heap h.rowC hk
   exact ⟨_, _, hc, .inr (.inl rfl)⟩
 · obtain ⟨cur, hc⟩ := row_heap h.rowM hk
   exact ⟨_, _, hc, .inr (.inr rfl)⟩
section
variable {w w' : World} {c b r : Nat} {cv mv : Value} {code : List (Ins5 × Bool)} {s s' : CS} {ws : List Int} {D : List Nat}
theorem CM.far (h : CM w c b r cv mv code s ws) : b ∉ footC c cv mv ∧ r ∉ footC c cv mv := by
 refine ⟨fun hk => ?_, fun hk => ?_⟩
 · obtain ⟨cs, t, h1, h2⟩ := h.core.typed _ hk
   rcases h2 with rfl | rfl | rfl <;> exact obj_ne h1 h.ram.head (by decide) rfl
 · obtain ⟨cs, t, h1, h2⟩ := h.core.typed _ hk
   rcases h2 with rfl | rfl | rfl <;> exact obj_ne h1 h.ram.row (by decide) rfl
def footM (c b r : Nat) (cv mv : Value) : List Nat := [b, r] ++ footC c cv mv
theorem CM.chg (h : CM w c b r cv mv code s ws) (hc : Chg w w' D) (hD : ∀ k ∈ footM c b r cv mv, k ∉ D) (hg : 1 ∉ D) : CM w' c b r cv mv code s ws :=
 ⟨h.core.chg hc (fun k hk => hD k (by simp only [footM, List.mem_append]; exact .inr hk)), h.ram.chg hc (hD b (by simp [footM])) (hD r (by simp [footM])), ⟨h.env.tab.chg hc h.env.lt hg, Nat.lt_of_lt_of_le h.env.lt hc.size, h.env.far⟩, h.gb, h.gr⟩
def CMP (s' : CS) (ws' : List Int) (c b r : Nat) (cv mv : Value) (code : List (Ins5 × Bool)) (w w' : World) : Prop :=
 Chg w w' ([c, r] ++ mv.ownBlock.toList) ∧ ∃ mv', (mv'.ownBlock = mv.ownBlock ∨ ∃ g, mv'.ownBlock = some g ∧ w.heap.size ≤ g) ∧ CM w' c b r cv mv' code s' ws'
theorem CM.of_core (h : CM w c b r cv mv code s ws) (hp : CoreP s' c (.pointer (some ⟨b, 0, none⟩)) cv mv code w w') : CMP s' ws c b r cv mv code w w' := by
 obtain ⟨hc, mv', hm, hb⟩ := hp
 obtain ⟨fb, fr⟩ := h.far
 have hn : ∀ k, k ∉ footC c cv mv → k ∉ [c] ++ mv.ownBlock.toList := fun k hk hm => hk (by simp only [footC, List.mem_append] at hm ⊢; exact hm.elim .inl (fun h => .inr (.inr h)))
 refine ⟨hc.more (fun k hk => .inl (by simp only [List.mem_append, List.mem_cons, List.not_mem_nil, or_false] at hk ⊢; exact hk.elim (fun h => .inl (.inl h)) .inr)), mv', hm, hb, h.ram.chg hc (hn b fb) (hn r fr), h.env.core (bp := .pointer (some ⟨b, 0, none⟩)) (code := code) (s := s') hc hm, h.gb, h.gr⟩
end
theorem CMP.alloc {w w1 w2 : World} {c b r : Nat} {cv mv : Value} {code : List (Ins5 × Bool)} {s' : CS} {ws' : List Int} (hc : Chg w w1 []) (h : CMP s' ws' c b r cv mv code w1 w2) : CMP s' ws' c b r cv mv code w w2 := by
 obtain ⟨h1, mv', hm, hcm⟩ := h
 refine ⟨(hc.more (by simp)).trans h1 (fun k hk => .inl hk), mv', ?_, hcm⟩
 rcases hm with h | ⟨g, h, hg⟩
 · exact .inl h
 · exact .inr ⟨g, h, Nat.le_trans hc.size hg⟩
theorem CMP.step {w w1 w2 : World} {c b r : Nat} {cv mv mv1 : Value} {code : List (Ins5 × Bool)} {s2 : CS} {ws2 : List Int} (hc : Chg w w1 ([c, r] ++ mv.ownBlock.toList)) (hm : mv1.ownBlock = mv.ownBlock ∨ ∃ g, mv1.ownBlock = some g ∧ w.heap.size ≤ g) (h : CMP s2 ws2 c b r cv mv1 code w1 w2) : CMP s2 ws2 c b r cv mv code w w2 := by
 obtain ⟨h1, mv', hm2, hcm⟩ := h
 refine ⟨hc.trans h1 (fun k hk => ?_), mv', ?_, hcm⟩
 · simp only [List.mem_append, Option.mem_toList] at hk ⊢
   rcases hk with hk | hk
   · exact .inl (.inl hk)
   · rcases hm with e | ⟨g, e, hg⟩
     · rw [e] at hk; exact .inl (.inr hk)
     · rw [e] at hk; injection hk with hk; subst hk; exact .inr hg
 · rcases hm2 with e2 | ⟨g2, e2, hg2⟩
   · rcases hm with e | ⟨g, e, hg⟩
     · exact .inl (e2.trans e)
     · exact .inr ⟨g, e2.trans e, hg⟩
   · exact .inr ⟨g2, e2, Nat.le_trans hc.size hg2⟩
def costA (ad : Nat) : Int := if ad < 1024 then 2 else 3
set_option maxRecDepth 100000 in
set_option maxHeartbeats 2000000 in
theorem memory_lw {w : World} {c b r : Nat} {cv mv : Value} {code : List (Ins5 × Bool)} {s : CS} {ws : List Int} (h : CM w c b r cv mv code s ws) (d a n v : Nat) (hd : d < 32) (ha : a < 32) (hv : regC s a = (v : Int)) (hin : v + n < ws.length) (hm : s.marks.length ≤ 2000000) :
 Calls Tryz.prog 107 #[.pointer (some ⟨c, 0, none⟩), insVal ⟨34, d, a, 0, n⟩] w fun e w' => (∃ v, e = .returned v) ∧ CMP (goesC (putC s d (ws.getD (v + n) 0)) (wrap64 (s.pc + 1)) ((v : Int) + (n : Int)) (costA (v + n))) ws c b r cv mv code w w' := by
 have H := hide h
 have HM := hide hm
 have hwl := h.ram.n
 have hlt := h.core.blk.lt
 have hca := h.core.blk.cell' (cc_reg h.core.reg a ha)
 have c0 : w.cell? ⟨c, 0, none⟩ = some (.pointer (some ⟨b, 0, none⟩)) := h.core.blk.cell' (i := 0) rfl
 have c34 := h.core.blk.cell' (@cc_at (.pointer (some ⟨b, 0, none⟩)) cv mv s h.core.reg).1
 rw [show s.regs.getD a 0 = (v : Int) from hv] at hca
 have ha2 : (a : Int) < 32 := by omega
 have hbd : (v : Int) + (n : Int) < 2048 := by omega
 have HC0 : Hid (∀ nq, Chg w ((w.alloc (.cells #[.int .i64 34, .int .i64 d, .int .i64 a, .int .i64 0, .int .i64 n] 96)).drewN nq) []) := hide (fun nq => ((Chg.refl w []).alloc _).drewN nq)
 have HLD : Hid (∀ W, Chg w W [] → Calls Tryz.prog 59 #[.pointer (some ⟨b, 0, none⟩), .int .i32 ((v : Int) + (n : Int))] W fun e w' => e = .returned (.tuple #[.int .i32 (ws.getD (v + n) 0), .bool true]) ∧ Chg W w' []) := hide (fun W hc => by
  have hl := load_any b r ws ((v : Int) + (n : Int)) W (H.out.ram.chg hc (by simp) (by simp)) (by omega) (by omega)
  have e1 : ld ws ((v : Int) + (n : Int)) = ws.getD (v + n) 0 := by unfold ld; rw [if_pos (by omega)]; congr 1
  have e2 : inB ws ((v : Int) + (n : Int)) = true := by unfold inB; simp; omega
  rwa [e1, e2] at hl)
 have HCO : Hid (∀ W, Chg w W [] → Calls Tryz.prog 143 #[.int .i64 34] W fun e w' => e = .returned (.int .i64 2) ∧ W = w') := hide (fun W hc => cost_calls 34 W (H.out.env.chg hc).tab)
 have HPU : Hid (∀ W, Chg w W [] → Calls Tryz.prog 104 #[.pointer (some ⟨c, 0, none⟩), .int .i64 d, .int .i32 (ws.getD (v + n) 0)] W fun e w' => (∃ v, e = .returned v) ∧ CoreP (putC s d (ws.getD (v + n) 0)) c (.pointer (some ⟨b, 0, none⟩)) cv mv code W w') := hide (fun W hc => put_calls (H.out.core.chg hc (by simp)) d hd _)
 generalize ws.getD (v + n) 0 = x at *
 have HB : Hid (Blk (w.alloc (.cells #[.int .i64 34, .int .i64 d, .int .i64 a, .int .i64 0, .int .i64 n] 96)) w.heap.size 96 [.int .i64 34, .int .i64 d, .int .i64 a, .int .i64 0, .int .i64 n]) := hide (Blk.new w _ _)
 have HHI := hide hin
 clear h hm hv
 unfold insVal
 go_enter Tryz.func107, Tryz.ntmps107
 go_wp2
 go_quiet (fail)
 have hq := HC0.out nq
 have z0 := hq.cell c0 (by simp)
 have z34 := hq.cell c34 (by simp)
 have hb := HB.out.drewN nq
 have hld := HLD.out _ hq
 have HQ := hide hq
 generalize w.heap.size = ia at *
 generalize (w.alloc _).drewN nq = w0 at *
 clear hq HC0 HB c0 c34 HLD
 go_wp2_with fail
 go_at_call 59
 refine hld.mono ?_
 rintro e w1 ⟨rfl, hc1⟩
 have hb1 := hb.chg hc1 (by simp)
 have hq1 := HQ.out.trans hc1 (by simp)
 have i0 := hb1.cell' (i := 0) rfl
 have i1 := hb1.cell' (i := 1) rfl
 have hco := HCO.out w1 hq1
 have hpu := HPU.out w1 hq1
 have HQ1 := hide hq1
 clear hld hb hc1 hq1 HQ HCO HPU hb1 z0 z34 hca
 go_wp2_with fail
 go_at_call 143
 refine hco.mono ?_
 rintro e w2 ⟨rfl, rfl⟩
 have hcA : costA (v + n) = if v + n < 1024 then 2 else 3 := rfl
 have HLW := hide (⟨HHI.out, hwl⟩ : v + n < ws.length ∧ ws.length ≤ 2048)
 by_cases h1024 : v + n < 1024
 all_goals
  first
   | have hx : decide ((1024 : Int) ≤ (v : Int) + (n : Int)) = false := by (simp; omega)
   | have hx : decide ((1024 : Int) ≤ (v : Int) + (n : Int)) = true := by (simp; omega)
  first
   | rw [if_pos h1024] at hcA
   | rw [if_neg h1024] at hcA
  replace hcA := hide hcA
  go_wp2_with fail
  go_at_call 104
  refine hpu.mono ?_
  rintro e w3 ⟨⟨u, rfl⟩, hp⟩
  have HP := hide (H.out.chg HQ1.out (fun k _ => by simp) (by simp))
  have hcp := HP.out.of_core hp
  obtain ⟨hc3, mv3, hm3, hcm3⟩ := id hcp
  have z34 := hcm3.core.blk.cell' (@cc_at (.pointer (some ⟨b, 0, none⟩)) cv mv3 (putC s d x) hcm3.core.reg).1
  have hgo := fun nx ad co => goes_c_calls hcm3.core nx ad co (by rw [putC_marks]; exact HM.out)
  rw [show (putC s d x).pc = s.pc by unfold putC; split <;> rfl] at z34
  have HCP := hide hcp
  have HCM := hide hcm3
  have HC3 := hide hc3
  have HM3 := hide hm3
  have HGO := hide hgo
  clear hp hcp hc3 hm3 hcm3 hgo hpu hco i0 i1
  go_wp2_with fail
  go_at_call 142
  refine (HGO.out _ _ _).mono ?_
  rintro e w4 ⟨⟨u2, rfl⟩, hp4⟩
  have HP4 := hide (HCM.out.of_core hp4)
  clear hp4
  go_wp2
  refine bodyPost_end (results_none rfl _ _ _) rfl ?_
  rw [hcA.out]
  exact ⟨⟨_, rfl⟩, CMP.alloc HQ1.out (CMP.step HC3.out HM3.out HP4.out)⟩
set_option maxRecDepth 100000 in
set_option maxHeartbeats 2000000 in
theorem memory_sw {w : World} {c b r : Nat} {cv mv : Value} {code : List (Ins5 × Bool)} {s : CS} {ws : List Int} (h : CM w c b r cv mv code s ws) (d a n v : Nat) (hd : d < 32) (ha : a < 32) (hv : regC s a = (v : Int)) (hin : v + n < ws.length) (hm : s.marks.length ≤ 2000000) :
 Calls Tryz.prog 107 #[.pointer (some ⟨c, 0, none⟩), insVal ⟨35, d, a, 0, n⟩] w fun e w' => (∃ v, e = .returned v) ∧ CMP (goesC s (wrap64 (s.pc + 1)) ((v : Int) + (n : Int)) (costA (v + n))) (ws.set (v + n) (regC s d)) c b r cv mv code w w' := by
 have H := hide h
 have HM := hide hm
 have hwl := h.ram.n
 have hlt := h.core.blk.lt
 have hca := h.core.blk.cell' (cc_reg h.core.reg a ha)
 have hcd := h.core.blk.cell' (cc_reg h.core.reg d hd)
 have c0 : w.cell? ⟨c, 0, none⟩ = some (.pointer (some ⟨b, 0, none⟩)) := h.core.blk.cell' (i := 0) rfl
 have c34 := h.core.blk.cell' (@cc_at (.pointer (some ⟨b, 0, none⟩)) cv mv s h.core.reg).1
 rw [show s.regs.getD a 0 = (v : Int) from hv] at hca
 change w.cell? _ = some (.int .i32 (regC s d)) at hcd
 have ha2 : (a : Int) < 32 := by omega
 have hd2 : (d : Int) < 32 := by omega
 have hbd : (v : Int) + (n : Int) < 2048 := by omega
 have HC0 : Hid (∀ nq, Chg w ((w.alloc (.cells #[.int .i64 35, .int .i64 d, .int .i64 a, .int .i64 0, .int .i64 n] 96)).drewN nq) []) := hide (fun nq => ((Chg.refl w []).alloc _).drewN nq)
 have HLD : Hid (∀ W, Chg w W [] → Calls Tryz.prog 59 #[.pointer (some ⟨b, 0, none⟩), .int .i32 ((v : Int) + (n : Int))] W fun e w' => e = .returned (.tuple #[.int .i32 (ws.getD (v + n) 0), .bool true]) ∧ Chg W w' []) := hide (fun W hc => by
  have hl := load_any b r ws ((v : Int) + (n : Int)) W (H.out.ram.chg hc (by simp) (by simp)) (by omega) (by omega)
  have e1 : ld ws ((v : Int) + (n : Int)) = ws.getD (v + n) 0 := by unfold ld; rw [if_pos (by omega)]; congr 1
  have e2 : inB ws ((v : Int) + (n : Int)) = true := by unfold inB; simp; omega
  rwa [e1, e2] at hl)
 have HCO : Hid (∀ W, Chg w W [] → Calls Tryz.prog 143 #[.int .i64 35] W fun e w' => e = .returned (.int .i64 2) ∧ W = w') := hide (fun W hc => cost_calls 35 W (H.out.env.chg hc).tab)
 generalize hxr : regC s d = x at *
 have HST : Hid (∀ W, Chg w W [] → Calls Tryz.prog 57 #[.pointer (some ⟨b, 0, none⟩), .int .i32 ((v : Int) + (n : Int)), .int .i32 x] W fun e w' => e = .returned (.bool true) ∧ CMP s (ws.set (v + n) x) c b r cv mv code W w') := hide (fun W hc => by
  have hcm := H.out.chg hc (fun k _ => by simp) (by simp)
  refine (store_any b r ws ((v : Int) + (n : Int)) x W hcm.ram (by omega) (by omega)).mono ?_
  rintro e w' ⟨rfl, hr, hc2⟩
  have e1 : st ws ((v : Int) + (n : Int)) x = ws.set (v + n) x := by unfold st; rw [if_pos (by omega)]; congr 1
  have e2 : inB ws ((v : Int) + (n : Int)) = true := by unfold inB; simp; omega
  rw [e1] at hr
  rw [e2]
  obtain ⟨_, fr⟩ := hcm.far
  have hrn : ∀ k ∈ footC c cv mv, k ∉ [r] := fun k hk hm => by simp only [List.mem_singleton] at hm; subst hm; exact fr hk
  exact ⟨rfl, hc2.more (fun k hk => .inl (by simp only [List.mem_singleton] at hk; simp [hk])), mv, .inl rfl, hcm.core.chg hc2 hrn, hr, ⟨hcm.env.tab.chg hc2 hcm.env.lt (by simpa using hcm.gr), Nat.lt_of_lt_of_le hcm.env.lt hc2.size, hcm.env.far⟩, hcm.gb, hcm.gr⟩)
 generalize ws.getD (v + n) 0 = y at *
 have HB : Hid (Blk (w.alloc (.cells #[.int .i64 35, .int .i64 d, .int .i64 a, .int .i64 0, .int .i64 n] 96)) w.heap.size 96 [.int .i64 35, .int .i64 d, .int .i64 a, .int .i64 0, .int .i64 n]) := hide (Blk.new w _ _)
 have HHI := hide hin
 have HXR := hide hxr
 clear h hm hv hxr
 unfold insVal
 go_enter Tryz.func107, Tryz.ntmps107
 go_wp2
 go_quiet (fail)
 have hq := HC0.out nq
 have z0 := hq.cell c0 (by simp)
 have z34 := hq.cell c34 (by simp)
 have zd := hq.cell hcd (by simp)
 have hb := HB.out.drewN nq
 have hld := HLD.out _ hq
 have HQ := hide hq
 generalize w.heap.size = ia at *
 generalize (w.alloc _).drewN nq = w0 at *
 clear hq HC0 HB c0 c34 hcd HLD
 go_wp2_with fail
 go_at_call 59
 refine hld.mono ?_
 rintro e w1 ⟨rfl, hc1⟩
 have hb1 := hb.chg hc1 (by simp)
 have hq1 := HQ.out.trans hc1 (by simp)
 have i0 := hb1.cell' (i := 0) rfl
 have i1 := hb1.cell' (i := 1) rfl
 have y0 := hc1.cell z0 (by simp)
 have yd := hc1.cell zd (by simp)
 have hco := HCO.out w1 hq1
 have HQ1 := hide hq1
 clear hld hb hc1 hq1 HQ HCO hb1 z0 z34 zd hca
 go_wp2_with fail
 go_at_call 143
 refine hco.mono ?_
 rintro e w2 ⟨rfl, rfl⟩
 have hcA : costA (v + n) = if v + n < 1024 then 2 else 3 := rfl
 have HLW := hide (⟨HHI.out, hwl⟩ : v + n < ws.length ∧ ws.length ≤ 2048)
 by_cases h1024 : v + n < 1024
 all_goals
  first
   | have hx : decide ((1024 : Int) ≤ (v : Int) + (n : Int)) = false := by (simp; omega)
   | have hx : decide ((1024 : Int) ≤ (v : Int) + (n : Int)) = true := by (simp; omega)
  first
   | rw [if_pos h1024] at hcA
   | rw [if_neg h1024] at hcA
  replace hcA := hide hcA
  go_wp2_with fail
  go_still_tail 12, (by kernel_rfl)
  change wpList _ _ _ _ _ w1.drew
  have hqd : Chg w1 w1.drew [] := (Chg.refl w1 []).drew
  have hst := HST.out w1.drew (HQ1.out.trans hqd (by simp))
  have HQD := hide (HQ1.out.trans hqd (by simp))
  go_wp2_with fail
  go_at_call 57
  refine hst.mono ?_
  rintro e w3 ⟨rfl, hcp⟩
  obtain ⟨hc3, mv3, hm3, hcm3⟩ := id hcp
  have z34 := hcm3.core.blk.cell' (@cc_at (.pointer (some ⟨b, 0, none⟩)) cv mv3 s hcm3.core.reg).1
  have hgo := fun nx ad co => goes_c_calls hcm3.core nx ad co HM.out
  have HCM := hide hcm3
  have HC3 := hide hc3
  have HM3 := hide hm3
  have HGO := hide hgo
  clear hcp hc3 hm3 hcm3 hgo hst hqd hco i0 i1 y0 yd
  go_wp2_with fail
  go_at_call 142
  refine (HGO.out _ _ _).mono ?_
  rintro e w4 ⟨⟨u2, rfl⟩, hp4⟩
  have HP4 := hide (HCM.out.of_core hp4)
  clear hp4
  go_wp2
  refine bodyPost_end (results_none rfl _ _ _) rfl ?_
  rw [hcA.out]
  exact ⟨⟨_, rfl⟩, CMP.alloc HQD.out (CMP.step HC3.out HM3.out HP4.out)⟩
end Go.Proofs.YthnhilghjadigaaGreatDoor

/- The core: a new one, of words that decode. -/
namespace Go.Proofs.YthnhilghjadigaaGreatDoor
open Go.RowKit Go.Deep Go.Maps
set_option linter.unusedVariables false
attribute [local go_sem] Oper.semAt_some
theorem info_row6 : (Tryz.prog.info? 112).map (fun i => (i.zero, i.size, i.bytes)) = some (some (.agg #[.int .i64 0, .int .i64 0, .int .i64 0, .int .i64 0, .int .i64 0, .bool false]), 6, 48) := by kernel_rfl
theorem six_new {w : World} {a b c d f g : Value} {t : TypeId} : ∀ j u, [a, b, c, d, f, g][j]? = some u → ((w.alloc (.cells #[a, b, c, d, f, g] t)).drew).cell? ((⟨w.heap.size, 0, none⟩ : Addr).add j) = some u := by
 intro j u hj
 match j, hj with
 | 0, hj => simp at hj; subst hj; simp [Addr.add]
 | 1, hj => simp at hj; subst hj; simp [Addr.add]
 | 2, hj => simp at hj; subst hj; simp [Addr.add]
 | 3, hj => simp at hj; subst hj; simp [Addr.add]
 | 4, hj => simp at hj; subst hj; simp [Addr.add]
 | 5, hj => simp at hj; subst hj; simp [Addr.add]
theorem six_one {a b c d f : Int} {t : Bool} : ∀ u ∈ [Value.int .i64 a, .int .i64 b, .int .i64 c, .int .i64 d, .int .i64 f, .bool t], u.oneCell' = true := by
 intro u hu
 simp at hu
 rcases hu with rfl | rfl | rfl | rfl | rfl | rfl <;> rfl
def cs00 : CS := ⟨List.replicate 32 0, 0, 0, 0, []⟩
def zeroCells (bp cv : Value) : List Value := coreCells bp cv (.slice none 0 0) cs00
def okRows (is : List Ins5) : List (Ins5 × Bool) := is.map fun i => (i, true)
theorem rowCells_snoc (l : List (Ins5 × Bool)) (i : Ins5) (t : Bool) : rowCells (l ++ [(i, t)]) = rowCells l ++ [.int .i64 i.op, .int .i64 i.d, .int .i64 i.a, .int .i64 i.b, .int .i64 i.n, .bool t] := by
 simp [rowCells, insCells]
theorem encI_bounds {i : Ins5} (h : chkI i = 0) : 0 ≤ encI i ∧ encI i ≤ 4294967295 := by
 have hb := fits_bounds ((chk_iff _ _ _ _ _).1 h)
 have hE : encK i.op i.d i.a i.b i.n 4 = i.op * 67108864 + i.d * 2097152 + i.a * 65536 + i.b * 2048 + i.n % 65536 := rfl
 unfold encI
 rw [if_pos h, hE]
 omega
theorem decode_good (i : Ins5) (h : chkI i = 0) (w : World) : Calls Tryz.prog 54 #[.int .u32 (encI i)] w fun e w' => e = .returned (.tuple #[insV i.op i.d i.a i.b i.n, .int .i64 0]) ∧ Chg w w' [] := by
 have := decode_any (encI i) w (encI_bounds h).1 (encI_bounds h).2
 rwa [dec_encI h] at this
set_option maxRecDepth 100000 in
set_option maxHeartbeats 2000000 in
theorem cnew_calls {w : World} (A : Option Addr) (cp : Nat) (is : List Ins5) (hs : Sl w (.slice A is.length cp) ((is.map encI).map (Value.int .u32))) (hok : ∀ i ∈ is, chkI i = 0) (hl : is.length ≤ 16384)
 (A2 : Option Addr) (cp2 : Nat) (ws : List Int) (hw : ws.length ≤ 2048) (hd : Sl w (.slice A2 ws.length cp2) (i32s ws)) :
 Calls Tryz.prog 26 #[.slice A is.length cp, .slice A2 ws.length cp2] w fun e w' => ∃ c b r cv, e = .returned (.tuple #[.pointer (some ⟨c, 0, none⟩), .int .i64 0]) ∧ Chg w w' [] ∧ CB w' c (.pointer (some ⟨b, 0, none⟩)) cv (.slice none 0 0) (okRows is) cs00 ∧ IsRam w' b r ws ∧ w.heap.size ≤ b ∧ w.heap.size ≤ r ∧ (∀ k ∈ footC c cv (.slice none 0 0), w.heap.size ≤ k) := by
 obtain ⟨i0, hi, hz0, hz1, hz2⟩ := info_parts info_row6
 have hnew := new_any A2 cp2 ws w hw hd
 have HS := hide hs
 have HOK := hide hok
 clear hs hok hd
 go_enter Tryz.func26, Tryz.ntmps26
 go_wp2_with fail
 go_at_call 53
 refine hnew.mono ?_
 rintro e w1 ⟨b, r, rfl, hram, hb1, hr1, hc1⟩
 have HRAM := hide hram
 have HC1 := hide hc1
 have HL := hide hl
 have hx1 : decide ((16384 : Int) < (is.length : Int)) = false := by simp; omega
 clear hram hc1 hnew
 go_wp2
 generalize hcq : w1.heap.size = c at *
 replace hcq := hide hcq
 go_loopw [30] (fun i wr => ∃ (k : Nat) (cv : Value), k ≤ is.length ∧ i = .int .i64 k ∧ Hid (Chg w1 wr []) ∧ Hid (CB wr c (.pointer (some ⟨b, 0, none⟩)) cv (.slice none 0 0) (okRows (is.take k)) cs00) ∧ Hid (∀ g, cv.ownBlock = some g → c ≤ g)) (fun i _ => is.length - (intOf i).toNat)
 case atStart =>
  refine ⟨0, .slice none 0 0, Nat.zero_le _, rfl, hide ((Chg.refl w1 []).alloc _), hide ⟨by rw [← hcq.out]; exact Blk.new w1 108 (zeroCells (.pointer (some ⟨b, 0, none⟩)) (.slice none 0 0)), World.ownsRow_nil _ _ _ _, World.ownsRow_nil _ _ _ _, rfl⟩, hide (fun g hg => by simp [Value.ownBlock] at hg)⟩
 case round =>
  obtain ⟨k, cv, hk, rfl, HR, HB, HV⟩ := hrel
  by_cases hlt : k < is.length
  · obtain ⟨i, hik⟩ : ∃ i, is[k]? = some i := ⟨is[k], by simp [hlt]⟩
    have hci : chkI i = 0 := HOK.out i (List.mem_of_getElem? hik)
    have HTK : Hid (is.take (k + 1) = is.take k ++ [i]) := hide (by rw [List.take_add_one, hik]; rfl)
    obtain ⟨b0, off, hA, hcell, hbl⟩ := HS.out.at_ (k := k) (u := .int .u32 (encI i)) (by simp [hik])
    subst hA
    have hcr := (HC1.out.trans HR.out (by simp)).cell hcell (by simp)
    have hdec := decode_good i hci wr
    have HCI := hide hci
    generalize encI i = ei at *
    clear hcell hik hci
    obtain ⟨op, d, a, bb, n⟩ := i
    unfold insV at hdec
    go_wp2_with fail
    go_at_call 54
    refine hdec.mono ?_
    rintro e w2 ⟨rfl, hc2⟩
    have HC2 := hide hc2
    clear hc2 hcr hdec
    go_upto_region 9 with (fail)
    have hlq : (okRows (is.take k)).length = k := by simp [okRows]; omega
    have hsnoc : Hid (okRows (is.take (k + 1)) = okRows (is.take k) ++ [(⟨op, d, a, bb, n⟩, true)]) := hide (by rw [HTK.out]; simp [okRows])
    have hcz := (Chg.refl w2 []).alloc (.cells #[.int .i64 op, .int .i64 d, .int .i64 a, .int .i64 bb, .int .i64 n] 96)
    have hbx := Blk.new w2 96 [.int .i64 op, .int .i64 d, .int .i64 a, .int .i64 bb, .int .i64 n]
    have hb3 := (HB.out.chg HC2.out (by simp)).chg hcz (by simp)
    have hs0 := HC2.out.size
    generalize w2.heap.size = q at *
    have x0 := hbx.cell' (i := 0) rfl
    have x1 := hbx.cell' (i := 1) rfl
    have x2 := hbx.cell' (i := 2) rfl
    have x3 := hbx.cell' (i := 3) rfl
    have x4 := hbx.cell' (i := 4) rfl
    have xl := hbx.lt
    have HCZ : Hid (Chg w1 _ []) := hide ((HR.out.trans HC2.out (by simp)).trans hcz (by simp))
    generalize w2.alloc _ = w3 at *
    generalize okRows (is.take k) = rows at *
    have c1 : w3.cell? ⟨c, 1, none⟩ = some cv := hb3.blk.cell' (i := 1) rfl
    have f1 := hb3.blk.frozen 1
    have hcl := hb3.blk.lt
    have HB3 := hide hb3
    obtain ⟨A3, c3, rfl⟩ := own_slice hb3.rowC
    have hrl : rows.length ≤ 16384 := by have := HL.out; omega
    have HLQ := hide hlq
    clear hcz hbx hb3 HB HC2 HR hs0 hlq
    go_region_law (refine step_append_lies _ rfl (.tmp 43) (.tmp 48) 105 rfl 0 112 i0 (.agg #[.int .i64 0, .int .i64 0, .int .i64 0, .int .i64 0, .int .i64 0, .bool false]) 6 48 Tryz.underlying105 hi hz0 hz1 hz2 rfl (by decide) (.slice A3 rows.length c3) rows.length _ (by simp [Act.eval]) ((HB3.out.rowC.alloc _).drew) ⟨w3.heap.size, 0, none⟩ 1 1 [.int .i64 op, .int .i64 d, .int .i64 a, .int .i64 bb, .int .i64 n, .bool true] (by simp [Act.eval]) rfl six_new six_one (by decide) (by unfold maxLen; omega) (by omega) (Nat.zero_le _) _ rfl ?_; rintro g cap w4 hown hgr hg2 hg3; have hc4 : Chg w3 w4 (Value.slice A3 rows.length c3).ownBlock.toList := ((((Chg.refl w3 _).alloc _).drew).trans (Chg.of_grown hgr (fun k hk => .inl (by simp [hk]))) (fun k hk => .inl hk)); have hb4 := HB3.out.blk.chg hc4 (by simpa using fun e => HB3.out.ne.1 e); have y1 := hb4.cell' (i := 1) rfl; have yf := hb4.frozen 1; have yl := hb4.lt; have HB4 := hide hb4; have HC4 := hide hc4; have HO4 := hide hown; have hg2 := hg2.imp id (fun h => h.trans (size_alloc w3 (.cells #[.int .i64 op, .int .i64 d, .int .i64 a, .int .i64 bb, .int .i64 n, .bool true] 112))); have HG4 := hide hg2; clear hown hgr hc4 hb4 hg2; skip)
    all_goals
     go_wp2
     go_roundw
     case rel =>
      have hgl : g < w4.heap.size := hg3
      obtain ⟨n1, n2, n3⟩ := HB3.out.ne
      have hbg : g ≠ c := fun e => by
       rcases HG4.out with h | h
       · exact n1 (by rw [h, e])
       · omega
      have hgc : c ≤ g := by
       rcases HG4.out with h | h
       · exact HV.out g h
       · omega
      have hc5 : Chg w4 (w4.setCell ⟨c, 1, none⟩ (.slice (some ⟨g, 0, none⟩) (rows.length + 1) cap)) [c] := (Chg.refl w4 _).setCell _ _ (by simp)
      refine ⟨k + 1, .slice (some ⟨g, 0, none⟩) (rows.length + 1) cap, by omega, by go_num, ?_, hide ⟨HB4.out.set_ 1 _, ?_, World.ownsRow_nil _ _ _ _, rfl⟩, hide ?_⟩
      · have hq := hcq.out
        exact hide ((HCZ.out.trans HC4.out (fun k hk => .inr (by have := HV.out k (Option.mem_toList.1 hk); omega))).trans hc5 (fun k hk => .inr (by simp only [List.mem_singleton] at hk; omega)))
      · rw [hsnoc.out, rowCells_snoc, List.length_append]
        exact own_chgD HO4.out hc5 (fun k hk => by simp [Value.ownBlock] at hk; subst hk; simpa using hbg)
      · intro g' hg'
        simp [Value.ownBlock] at hg'
        subst hg'
        exact hgc
     case measure => simp [intOf]; omega
  · obtain rfl : k = is.length := by omega
    go_wp2
    go_ret2
    have hb := HB.out
    rw [List.take_length] at hb
    have hq := hcq.out
    have hz := HC1.out.size
    refine ⟨c, b, r, cv, rfl, HC1.out.trans HR.out (by simp), hb, HRAM.out.chg HR.out (by simp) (by simp), hb1, hr1, fun k hk => ?_⟩
    simp only [footC, List.mem_append, List.mem_singleton, Option.mem_toList, Value.ownBlock] at hk
    rcases hk with rfl | hk | hk
    · omega
    · exact Nat.le_trans (by omega) (HV.out k hk)
    · cases hk
end Go.Proofs.YthnhilghjadigaaGreatDoor
